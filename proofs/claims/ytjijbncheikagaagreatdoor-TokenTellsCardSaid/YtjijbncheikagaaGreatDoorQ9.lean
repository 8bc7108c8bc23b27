-- Written by hookprint.py (wip/) of this session: the kit's print with hand-proved functions beside it. Not trusted: Lean checks it.
import Derived.Test.YtjijbncheikagaaGreatDoorQ0
import Derived.Test.YtjijbncheikagaaGreatDoorQ8
namespace Go.Proofs.YtjijbncheikagaaGreatDoor.Q
open List (setIfInBounds_toArray set_cons_zero set_cons_succ)
open Go.RowKit Go.Lib Go.Proofs.YtjijbncheikagaaGreatDoorX Go.Proofs.YtjijbncheikagaaGreatDoorW.PrintWords Go.Proofs.YtjijbncheikagaaGreatDoorW.PrintLast Go.Proofs.YtjijbncheikagaaGreatDoorW.PrintMore
set_option linter.unusedVariables false
set_option linter.unusedSimpArgs false
def cardexref08_walk_blanks.l0 : Nat → Int → ByteArray → Int → Option (Int × ByteArray × Int)
  | 0, _, _, _ => none
  | k + 1, x3, x1000, x1001 => if x1001 < (x1000.size : Int) then (if 0 ≤ x1001 then ((cardexref08_blank.f (bt x1000 x1001)).bind fun t315 => (if t315 = true then (cardexref08_walk_blanks.l0 k (wrap64 (x3 + 1)) x1000 (wrap64 (x1001 + 1))) else (some (x3, x1000, x1001)))) else (none)) else (some (x3, x1000, x1001))
def cardexref08_walk_blanks.f (k : Nat) (s0_0 : ByteArray) (s0_1 : Int) : Option (Int × ByteArray × Int) := cardexref08_walk_blanks.l0 k 0 s0_0 s0_1
set_option maxHeartbeats 8000000 in
set_option maxRecDepth 100000 in
theorem cardexref08_walk_blanks.calls (k : Nat) (g : Nat) (s0_0 : ByteArray) (s0_1 : Int) (r1 : Int) (r2 : ByteArray) (r3 : Int) (w0 w : World) (hI : IsS41 w0 w g s0_0 s0_1) (hB : Below w0.heap.size w0 w) (h : cardexref08_walk_blanks.f k s0_0 s0_1 = some (r1, r2, r3)) :
    Calls Tryz.prog 26 #[.pointer (some ⟨g, 0, none⟩)] w fun e w' => e = .returned (.int .i64 r1) ∧ IsS41 w0 w' g r2 r3 ∧ Below w0.heap.size w0 w' ∧ KeepBut w w' g none := by
  have HI0 := Aside0.mk hI
  have HK := Aside0.mk (KeepBut.refl w g none)
  have HL := Aside0.mk hB.size
  clear hI
  have HW0 := Aside0.mk hB.size
  have HB := Aside0.mk hB
  clear hB
  have H : (cardexref08_walk_blanks.l0 k 0 s0_0 s0_1) = some (r1, r2, r3) := h
  clear h
  have H' := Aside0.mk H
  clear H
  go_enter Tryz.func26, Tryz.ntmps26
  go_wp2
  repeat (go_quiet (fail); try go_wp2)
  go_loopg [3] k (fun kq v3 w' => ∃ (x3_1 : Int) (x1001_1 : Int), v3 = .int .i64 x3_1 ∧ Aside0 (cardexref08_walk_blanks.l0 kq x3_1 s0_0 x1001_1 = some (r1, r2, r3)) ∧ Aside0 (kq ≤ k) ∧ Aside0 (IsS41 w0 w' g s0_0 x1001_1) ∧ Aside0 (KeepBut w w' g none) ∧ Aside0 (Below w0.heap.size w0 w'))
  case atStart => exact ⟨(0), (s0_1), zz2, H', ⟨Nat.le_refl _⟩, ⟨zz8⟩, ⟨zz3⟩, ⟨zz7⟩⟩
  case round =>
    clear H'
    obtain ⟨x3_1, x1001_1, rfl, HA, HK1, HI0, HK, HB⟩ := hrel
    cases gk with
    | zero => exact absurd HA.out (by simp [cardexref08_walk_blanks.l0])
    | succ k1 =>
      have H := HA.out
      clear HA
      simp only [cardexref08_walk_blanks.l0] at H
      by_cases c2 : x1001_1 < (s0_0.size : Int)
      · rw [if_pos c2] at H
        have c2b0 : decide (x1001_1 < (s0_0.size : Int)) = true := decide_eq_true c2
        clear c2
        by_cases c3 : 0 ≤ x1001_1
        · rw [if_pos c3] at H
          have c3b0 : decide (0 ≤ x1001_1) = true := decide_eq_true c3
          clear c3
          replace H := Option.bind_eq_some_iff.mp H
          obtain ⟨t315, A50, H⟩ := H
          replace H : (if t315 = true then (cardexref08_walk_blanks.l0 k1 (wrap64 (x3_1 + 1)) s0_0 (wrap64 (x1001_1 + 1))) else (some (x3_1, s0_0, x1001_1))) = some (r1, r2, r3) := H
          have A5 := Aside0.mk A50
          clear A50
          by_cases c6 : t315 = true
          · subst c6
            have H1 : (cardexref08_walk_blanks.l0 k1 (wrap64 (x3_1 + 1)) s0_0 (wrap64 (x1001_1 + 1))) = some (r1, r2, r3) := by rw [if_pos rfl] at H; exact H
            clear H
            have H := H1
            clear H1
            have H' := Aside0.mk H
            clear H
            obtain ⟨HGz7, hgz7⟩ := HI0.out
            have hcz7_0 := cellS41_0 HGz7
            have hcz7_1 := cellS41_1 HGz7
            have hfz7_0 := blk_frozen HGz7 0
            have hfz7_1 := blk_frozen HGz7 1
            clear HGz7 hgz7
            have p4 : 0 ≤ (x1001_1 : Int) := of_decide_eq_true zz9
            have q4 : x1001_1 < (s0_0.size : Int) := of_decide_eq_true zz9
            have hx4 := bt_at s0_0 x1001_1
            replace p4 := eq_true p4
            replace q4 := eq_true q4
            go_wp2_with (first | (go_at_call 50; (with_reducible refine (cardexref08_blank.calls (bt s0_0 x1001_1) true _ A5.out).mono ?_); rintro e w' ⟨rfl, ⟨nd, rfl⟩⟩; (try first | exact ⟨rfl, _, World.drewN_drewN _ _ _⟩ | exact ⟨rfl, _, Eq.trans (World.drewN_drewN _ _ _) (congrArg (World.drewN _) (Nat.add_assoc _ _ _))⟩)))
            repeat (go_quiet (first | (go_at_call 50; (with_reducible refine (cardexref08_blank.calls (bt s0_0 x1001_1) true _ A5.out).mono ?_); rintro e w' ⟨rfl, ⟨nd, rfl⟩⟩; (try first | exact ⟨rfl, _, World.drewN_drewN _ _ _⟩ | exact ⟨rfl, _, Eq.trans (World.drewN_drewN _ _ _) (congrArg (World.drewN _) (Nat.add_assoc _ _ _))⟩))); try go_wp2_with (first | (go_at_call 50; (with_reducible refine (cardexref08_blank.calls (bt s0_0 x1001_1) true _ A5.out).mono ?_); rintro e w' ⟨rfl, ⟨nd, rfl⟩⟩; (try first | exact ⟨rfl, _, World.drewN_drewN _ _ _⟩ | exact ⟨rfl, _, Eq.trans (World.drewN_drewN _ _ _) (congrArg (World.drewN _) (Nat.add_assoc _ _ _))⟩))))
            go_roundg k1
            case measure => have := HK1.out; omega
            case rel => exact ⟨(wrap64 (x3_1 + 1)), (wrap64 (x1001_1 + 1)), zz2, H', ⟨by have := HK1.out; omega⟩, ⟨zz8⟩, ⟨zz3⟩, ⟨zz7⟩⟩
          · replace c6 := Bool.eq_false_iff.mpr c6
            subst c6
            have H1 : (some (x3_1, s0_0, x1001_1)) = some (r1, r2, r3) := by rw [if_neg (show ¬ (false = true) by decide)] at H; exact H
            clear H
            have H := H1
            clear H1
            simp only [Option.some.injEq, Prod.mk.injEq] at H
            obtain ⟨rfl, rfl, rfl⟩ := H
            obtain ⟨HGz8, hgz8⟩ := HI0.out
            have hcz8_0 := cellS41_0 HGz8
            have hcz8_1 := cellS41_1 HGz8
            have hfz8_0 := blk_frozen HGz8 0
            have hfz8_1 := blk_frozen HGz8 1
            clear HGz8 hgz8
            have p4 : 0 ≤ (x1001_1 : Int) := of_decide_eq_true zz9
            have q4 : x1001_1 < (s0_0.size : Int) := of_decide_eq_true zz9
            have hx4 := bt_at s0_0 x1001_1
            replace p4 := eq_true p4
            replace q4 := eq_true q4
            go_wp2_with (first | (go_at_call 50; (with_reducible refine (cardexref08_blank.calls (bt s0_0 x1001_1) false _ A5.out).mono ?_); rintro e w' ⟨rfl, ⟨nd, rfl⟩⟩; (try first | exact ⟨rfl, _, World.drewN_drewN _ _ _⟩ | exact ⟨rfl, _, Eq.trans (World.drewN_drewN _ _ _) (congrArg (World.drewN _) (Nat.add_assoc _ _ _))⟩)))
            repeat (go_quiet (first | (go_at_call 50; (with_reducible refine (cardexref08_blank.calls (bt s0_0 x1001_1) false _ A5.out).mono ?_); rintro e w' ⟨rfl, ⟨nd, rfl⟩⟩; (try first | exact ⟨rfl, _, World.drewN_drewN _ _ _⟩ | exact ⟨rfl, _, Eq.trans (World.drewN_drewN _ _ _) (congrArg (World.drewN _) (Nat.add_assoc _ _ _))⟩))); try go_wp2_with (first | (go_at_call 50; (with_reducible refine (cardexref08_blank.calls (bt s0_0 x1001_1) false _ A5.out).mono ?_); rintro e w' ⟨rfl, ⟨nd, rfl⟩⟩; (try first | exact ⟨rfl, _, World.drewN_drewN _ _ _⟩ | exact ⟨rfl, _, Eq.trans (World.drewN_drewN _ _ _) (congrArg (World.drewN _) (Nat.add_assoc _ _ _))⟩))))
            go_ret
            exact ⟨zz4, zz8, zz7, zz3⟩
        · rw [if_neg c3] at H
          exact absurd H (by simp)
      · rw [if_neg c2] at H
        have c2b0 : decide (x1001_1 < (s0_0.size : Int)) = false := decide_eq_false c2
        clear c2
        simp only [Option.some.injEq, Prod.mk.injEq] at H
        obtain ⟨rfl, rfl, rfl⟩ := H
        obtain ⟨HGz9, hgz9⟩ := HI0.out
        have hcz9_0 := cellS41_0 HGz9
        have hcz9_1 := cellS41_1 HGz9
        have hfz9_0 := blk_frozen HGz9 0
        have hfz9_1 := blk_frozen HGz9 1
        clear HGz9 hgz9
        go_wp2
        repeat (go_quiet (fail); try go_wp2)
        go_ret
        exact ⟨zz4, zz8, zz7, zz3⟩
mutual
def cardexref01_numeral.j0 : Nat → ByteArray → Int → Bool → Option (Int)
  | 0, _, _, _ => none
  | k + 1, x0, x1, x19 => if x19 = true then (some (-1)) else (cardexref01_numeral.l0 k x0 x1 0 0)
def cardexref01_numeral.l0 : Nat → ByteArray → Int → Int → Int → Option (Int)
  | 0, _, _, _, _ => none
  | k + 1, x0, x1, x7, x8 => if x8 < (x0.size : Int) then (if 0 ≤ x8 then (if (bt x0 x8) ≥ 48 then (cardexref01_numeral.j2 k x0 x1 x7 x8 (bt x0 x8) 99 (decide ((bt x0 x8) ≤ 57))) else (cardexref01_numeral.j2 k x0 x1 x7 x8 (bt x0 x8) 99 false)) else (none)) else (some x7)
def cardexref01_numeral.j2 : Nat → ByteArray → Int → Int → Int → Int → Int → Bool → Option (Int)
  | 0, _, _, _, _, _, _, _ => none
  | k + 1, x0, x1, x7, x8, x9, x10, x29 => if x29 = true then (if ((x9 - 48) % 256) ≥ x1 then (some (-1)) else (cardexref01_numeral.l0 k x0 x1 (wrap64 ((wrap64 (x7 * x1)) + ((x9 - 48) % 256))) (wrap64 (x8 + 1)))) else (if x9 ≥ 97 then (cardexref01_numeral.j3 k x0 x1 x7 x8 x9 x10 (decide (x9 ≤ 102))) else (cardexref01_numeral.j3 k x0 x1 x7 x8 x9 x10 false))
def cardexref01_numeral.j3 : Nat → ByteArray → Int → Int → Int → Int → Int → Bool → Option (Int)
  | 0, _, _, _, _, _, _, _ => none
  | k + 1, x0, x1, x7, x8, x9, x10, x39 => if x39 = true then (if (((x9 - 97) % 256) + 10) ≥ x1 then (some (-1)) else (cardexref01_numeral.l0 k x0 x1 (wrap64 ((wrap64 (x7 * x1)) + (((x9 - 97) % 256) + 10))) (wrap64 (x8 + 1)))) else (if x9 ≥ 65 then (cardexref01_numeral.j4 k x0 x1 x7 x8 x9 x10 (decide (x9 ≤ 70))) else (cardexref01_numeral.j4 k x0 x1 x7 x8 x9 x10 false))
def cardexref01_numeral.j4 : Nat → ByteArray → Int → Int → Int → Int → Int → Bool → Option (Int)
  | 0, _, _, _, _, _, _, _ => none
  | k + 1, x0, x1, x7, x8, x9, x10, x50 => if x50 = true then (if (((x9 - 65) % 256) + 10) ≥ x1 then (some (-1)) else (cardexref01_numeral.l0 k x0 x1 (wrap64 ((wrap64 (x7 * x1)) + (((x9 - 65) % 256) + 10))) (wrap64 (x8 + 1)))) else (if x10 ≥ x1 then (some (-1)) else (cardexref01_numeral.l0 k x0 x1 (wrap64 ((wrap64 (x7 * x1)) + x10)) (wrap64 (x8 + 1))))
end
def cardexref01_numeral.f (k : Nat) (a0 : ByteArray) (a1 : Int) (a2 : Int) : Option (Int) := if (a0.size : Int) < 1 then (cardexref01_numeral.j0 k a0 a1 true) else (cardexref01_numeral.j0 k a0 a1 (decide ((a0.size : Int) > a2)))
set_option maxHeartbeats 8000000 in
set_option maxRecDepth 100000 in
theorem cardexref01_numeral.calls (k : Nat) (a0 : ByteArray) (a1 : Int) (a2 : Int) (r : Int) (w : World) (h : cardexref01_numeral.f k a0 a1 a2 = some r) :
    Calls Tryz.prog 68 #[.string a0, .int .i64 a1, .int .i64 a2] w fun e w' => e = .returned (.int .i64 r) ∧ Drawn0 w w' := by
  have H : (if (a0.size : Int) < 1 then (cardexref01_numeral.j0 k a0 a1 true) else (cardexref01_numeral.j0 k a0 a1 (decide ((a0.size : Int) > a2)))) = some r := h
  clear h
  have HC4 := Aside0.mk H
  clear H
  go_enter Tryz.func68, Tryz.ntmps68
  go_upto_region 1 with (fail)
  go_cut [19] (fun v19 wc => ∃ (kq : Nat) (x19_3 : Bool), v19 = .bool x19_3 ∧ Aside0 (cardexref01_numeral.j0 kq a0 a1 x19_3 = some r) ∧ Aside0 (kq ≤ k) ∧ Drawn0 w wc)
  case first =>
    have H := HC4.out
    clear HC4
    by_cases c5 : (a0.size : Int) < 1
    · rw [if_pos c5] at H
      have c5b0 : decide ((a0.size : Int) < 1) = true := decide_eq_true c5
      have c5b1 : decide (a0.size < 1) = true := decide_eq_true (by omega)
      clear c5
      (first | rw [c5b0] | (simp only [i64_w, i32_w]; rw [c5b0]) | skip)
      have H' := Aside0.mk H
      clear H
      go_wp2
      go_meet
      case rel => exact ⟨_, (true), zz2, H', ⟨by first | omega | exact Nat.le_refl _⟩, zz10⟩
    · rw [if_neg c5] at H
      have c5b0 : decide ((a0.size : Int) < 1) = false := decide_eq_false c5
      have c5b1 : decide (a0.size < 1) = false := decide_eq_false (by omega)
      clear c5
      (first | rw [c5b0] | (simp only [i64_w, i32_w]; rw [c5b0]) | skip)
      have H' := Aside0.mk H
      clear H
      go_wp2
      go_meet
      case rel => exact ⟨_, (decide ((a0.size : Int) > a2)), zz2, H', ⟨by first | omega | exact Nat.le_refl _⟩, zz10⟩
  case rest =>
    clear HC4
    try clear p2
    try clear c5
    try clear c5b0
    try clear c5b1
    obtain ⟨kq, x19_3, rfl, HA, HJ3, ⟨mc3, rfl⟩⟩ := hcut
    cases kq with
    | zero => exact absurd HA.out (by simp [cardexref01_numeral.j0])
    | succ kj3 =>
      have H := HA.out
      clear HA
      simp only [cardexref01_numeral.j0] at H
      by_cases c6 : x19_3 = true
      · subst c6
        have H1 : (some (-1)) = some r := by rw [if_pos rfl] at H; exact H
        clear H
        have H := H1
        clear H1
        obtain rfl := Option.some.inj H
        go_wp2
        go_ret
        exact ⟨zz2, zz10⟩
      · replace c6 := Bool.eq_false_iff.mpr c6
        subst c6
        have H1 : (cardexref01_numeral.l0 kj3 a0 a1 0 0) = some r := by rw [if_neg (show ¬ (false = true) by decide)] at H; exact H
        clear H
        have H := H1
        clear H1
        have H' := Aside0.mk H
        clear H
        go_wp2
        go_loopg [7, 8] kj3 (fun kq v7 v8 w' => ∃ (x7_2 : Int) (x8_2 : Int), v7 = .int .i64 x7_2 ∧ v8 = .int .i64 x8_2 ∧ Aside0 (cardexref01_numeral.l0 kq a0 a1 x7_2 x8_2 = some r) ∧ Aside0 (kq ≤ kj3) ∧ Drawn0 w w')
        case atStart => exact ⟨(0), (0), zz2, zz2, H', ⟨Nat.le_refl _⟩, zz10⟩
        case round =>
          clear H'
          try clear p2
          try clear c3
          try clear c5
          try clear c5b0
          try clear c5b1
          try clear c6
          try clear p2
          obtain ⟨x7_2, x8_2, rfl, rfl, HA, HK2, ⟨m2, rfl⟩⟩ := hrel
          cases gk with
          | zero => exact absurd HA.out (by simp [cardexref01_numeral.l0])
          | succ k2 =>
            have H := HA.out
            clear HA
            simp only [cardexref01_numeral.l0] at H
            by_cases c7 : x8_2 < (a0.size : Int)
            · rw [if_pos c7] at H
              have c7b0 : decide (x8_2 < (a0.size : Int)) = true := decide_eq_true c7
              clear c7
              by_cases c8 : 0 ≤ x8_2
              · rw [if_pos c8] at H
                have c8b0 : decide (0 ≤ x8_2) = true := decide_eq_true c8
                clear c8
                have HC10 := Aside0.mk H
                clear H
                have p9 : 0 ≤ (x8_2 : Int) := of_decide_eq_true zz9
                have q9 : x8_2 < (a0.size : Int) := of_decide_eq_true zz9
                have hx9 := bt_at a0 x8_2
                replace p9 := eq_true p9
                replace q9 := eq_true q9
                go_upto_region 8 with (fail)
                go_cut [29] (fun v29 wc => ∃ (kq : Nat) (x29_9 : Bool), v29 = .bool x29_9 ∧ Aside0 (cardexref01_numeral.j2 kq a0 a1 x7_2 x8_2 (bt a0 x8_2) 99 x29_9 = some r) ∧ Aside0 (kq ≤ k2) ∧ Drawn0 w wc)
                case first =>
                  have H := HC10.out
                  clear HC10
                  by_cases c11 : (bt a0 x8_2) ≥ 48
                  · rw [if_pos c11] at H
                    have c11b0 : decide (48 ≤ (bt a0 x8_2)) = true := decide_eq_true c11
                    clear c11
                    (first | rw [c11b0] | (simp only [i64_w, i32_w]; rw [c11b0]) | skip)
                    have H' := Aside0.mk H
                    clear H
                    go_wp2
                    go_meet
                    case rel => exact ⟨_, (decide ((bt a0 x8_2) ≤ 57)), zz2, H', ⟨by have := HJ3.out; have := HK2.out; first | omega | exact Nat.le_refl _⟩, zz10⟩
                  · rw [if_neg c11] at H
                    have c11b0 : decide (48 ≤ (bt a0 x8_2)) = false := decide_eq_false c11
                    clear c11
                    (first | rw [c11b0] | (simp only [i64_w, i32_w]; rw [c11b0]) | skip)
                    have H' := Aside0.mk H
                    clear H
                    go_wp2
                    go_meet
                    case rel => exact ⟨_, (false), zz2, H', ⟨by have := HJ3.out; have := HK2.out; first | omega | exact Nat.le_refl _⟩, zz10⟩
                case rest =>
                  clear HC10
                  try clear c1
                  try clear p2
                  try clear c3
                  try clear c5
                  try clear c5b0
                  try clear c5b1
                  try clear c6
                  try clear c7
                  try clear c7b0
                  try clear c8
                  try clear c8b0
                  try clear p9
                  try clear q9
                  try clear hx9
                  try clear c11
                  try clear c11b0
                  try clear p2
                  try clear p9
                  try clear q9
                  obtain ⟨kq, x29_9, rfl, HA, HJ9, ⟨mc9, rfl⟩⟩ := hcut
                  cases kq with
                  | zero => exact absurd HA.out (by simp [cardexref01_numeral.j2])
                  | succ kj9 =>
                    have H := HA.out
                    clear HA
                    simp only [cardexref01_numeral.j2] at H
                    by_cases c12 : x29_9 = true
                    · subst c12
                      have H1 : (if (((bt a0 x8_2) - 48) % 256) ≥ a1 then (some (-1)) else (cardexref01_numeral.l0 kj9 a0 a1 (wrap64 ((wrap64 (x7_2 * a1)) + (((bt a0 x8_2) - 48) % 256))) (wrap64 (x8_2 + 1)))) = some r := by rw [if_pos rfl] at H; exact H
                      clear H
                      have H := H1
                      clear H1
                      by_cases c13 : (((bt a0 x8_2) - 48) % 256) ≥ a1
                      · rw [if_pos c13] at H
                        have c13b0 : decide (a1 ≤ (((bt a0 x8_2) - 48) % 256)) = true := decide_eq_true c13
                        clear c13
                        obtain rfl := Option.some.inj H
                        go_wp2
                        go_ret
                        exact ⟨zz2, zz10⟩
                      · rw [if_neg c13] at H
                        have c13b0 : decide (a1 ≤ (((bt a0 x8_2) - 48) % 256)) = false := decide_eq_false c13
                        clear c13
                        have H' := Aside0.mk H
                        clear H
                        go_wp2
                        go_roundg kj9
                        case measure => have := HJ3.out; have := HK2.out; have := HJ9.out; omega
                        case rel => exact ⟨(wrap64 ((wrap64 (x7_2 * a1)) + (((bt a0 x8_2) - 48) % 256))), (wrap64 (x8_2 + 1)), zz2, zz2, H', ⟨by have := HJ3.out; have := HK2.out; have := HJ9.out; omega⟩, zz10⟩
                    · replace c12 := Bool.eq_false_iff.mpr c12
                      subst c12
                      have H1 : (if (bt a0 x8_2) ≥ 97 then (cardexref01_numeral.j3 kj9 a0 a1 x7_2 x8_2 (bt a0 x8_2) 99 (decide ((bt a0 x8_2) ≤ 102))) else (cardexref01_numeral.j3 kj9 a0 a1 x7_2 x8_2 (bt a0 x8_2) 99 false)) = some r := by rw [if_neg (show ¬ (false = true) by decide)] at H; exact H
                      clear H
                      have H := H1
                      clear H1
                      have HC14 := Aside0.mk H
                      clear H
                      go_upto_region 10 with (fail)
                      go_cut [39] (fun v39 wc => ∃ (kq : Nat) (x39_13 : Bool), v39 = .bool x39_13 ∧ Aside0 (cardexref01_numeral.j3 kq a0 a1 x7_2 x8_2 (bt a0 x8_2) 99 x39_13 = some r) ∧ Aside0 (kq ≤ kj9) ∧ Drawn0 w wc)
                      case first =>
                        have H := HC14.out
                        clear HC14
                        by_cases c15 : (bt a0 x8_2) ≥ 97
                        · rw [if_pos c15] at H
                          have c15b0 : decide (97 ≤ (bt a0 x8_2)) = true := decide_eq_true c15
                          clear c15
                          (first | rw [c15b0] | (simp only [i64_w, i32_w]; rw [c15b0]) | skip)
                          have H' := Aside0.mk H
                          clear H
                          go_wp2
                          go_meet
                          case rel => exact ⟨_, (decide ((bt a0 x8_2) ≤ 102)), zz2, H', ⟨by have := HJ3.out; have := HK2.out; have := HJ9.out; first | omega | exact Nat.le_refl _⟩, zz10⟩
                        · rw [if_neg c15] at H
                          have c15b0 : decide (97 ≤ (bt a0 x8_2)) = false := decide_eq_false c15
                          clear c15
                          (first | rw [c15b0] | (simp only [i64_w, i32_w]; rw [c15b0]) | skip)
                          have H' := Aside0.mk H
                          clear H
                          go_wp2
                          go_meet
                          case rel => exact ⟨_, (false), zz2, H', ⟨by have := HJ3.out; have := HK2.out; have := HJ9.out; first | omega | exact Nat.le_refl _⟩, zz10⟩
                      case rest =>
                        clear HC14
                        try clear c1
                        try clear p2
                        try clear c3
                        try clear c5
                        try clear c5b0
                        try clear c5b1
                        try clear c6
                        try clear p6
                        try clear c7
                        try clear c7b0
                        try clear c8
                        try clear c8b0
                        try clear c9
                        try clear p9
                        try clear q9
                        try clear hx9
                        try clear c11
                        try clear c11b0
                        try clear c12
                        try clear c13
                        try clear c13b0
                        try clear c15
                        try clear c15b0
                        try clear p2
                        try clear p9
                        try clear q9
                        obtain ⟨kq, x39_13, rfl, HA, HJ13, ⟨mc13, rfl⟩⟩ := hcut
                        cases kq with
                        | zero => exact absurd HA.out (by simp [cardexref01_numeral.j3])
                        | succ kj13 =>
                          have H := HA.out
                          clear HA
                          simp only [cardexref01_numeral.j3] at H
                          by_cases c16 : x39_13 = true
                          · subst c16
                            have H1 : (if ((((bt a0 x8_2) - 97) % 256) + 10) ≥ a1 then (some (-1)) else (cardexref01_numeral.l0 kj13 a0 a1 (wrap64 ((wrap64 (x7_2 * a1)) + ((((bt a0 x8_2) - 97) % 256) + 10))) (wrap64 (x8_2 + 1)))) = some r := by rw [if_pos rfl] at H; exact H
                            clear H
                            have H := H1
                            clear H1
                            by_cases c17 : ((((bt a0 x8_2) - 97) % 256) + 10) ≥ a1
                            · rw [if_pos c17] at H
                              have c17b0 : decide (a1 ≤ ((((bt a0 x8_2) - 97) % 256) + 10)) = true := decide_eq_true c17
                              clear c17
                              obtain rfl := Option.some.inj H
                              go_wp2
                              go_ret
                              exact ⟨zz2, zz10⟩
                            · rw [if_neg c17] at H
                              have c17b0 : decide (a1 ≤ ((((bt a0 x8_2) - 97) % 256) + 10)) = false := decide_eq_false c17
                              clear c17
                              have H' := Aside0.mk H
                              clear H
                              go_wp2
                              go_roundg kj13
                              case measure => have := HJ3.out; have := HK2.out; have := HJ9.out; have := HJ13.out; omega
                              case rel => exact ⟨(wrap64 ((wrap64 (x7_2 * a1)) + ((((bt a0 x8_2) - 97) % 256) + 10))), (wrap64 (x8_2 + 1)), zz2, zz2, H', ⟨by have := HJ3.out; have := HK2.out; have := HJ9.out; have := HJ13.out; omega⟩, zz10⟩
                          · replace c16 := Bool.eq_false_iff.mpr c16
                            subst c16
                            have H1 : (if (bt a0 x8_2) ≥ 65 then (cardexref01_numeral.j4 kj13 a0 a1 x7_2 x8_2 (bt a0 x8_2) 99 (decide ((bt a0 x8_2) ≤ 70))) else (cardexref01_numeral.j4 kj13 a0 a1 x7_2 x8_2 (bt a0 x8_2) 99 false)) = some r := by rw [if_neg (show ¬ (false = true) by decide)] at H; exact H
                            clear H
                            have H := H1
                            clear H1
                            have HC18 := Aside0.mk H
                            clear H
                            go_upto_region 12 with (fail)
                            go_cut [50] (fun v50 wc => ∃ (kq : Nat) (x50_17 : Bool), v50 = .bool x50_17 ∧ Aside0 (cardexref01_numeral.j4 kq a0 a1 x7_2 x8_2 (bt a0 x8_2) 99 x50_17 = some r) ∧ Aside0 (kq ≤ kj13) ∧ Drawn0 w wc)
                            case first =>
                              have H := HC18.out
                              clear HC18
                              by_cases c19 : (bt a0 x8_2) ≥ 65
                              · rw [if_pos c19] at H
                                have c19b0 : decide (65 ≤ (bt a0 x8_2)) = true := decide_eq_true c19
                                clear c19
                                (first | rw [c19b0] | (simp only [i64_w, i32_w]; rw [c19b0]) | skip)
                                have H' := Aside0.mk H
                                clear H
                                go_wp2
                                go_meet
                                case rel => exact ⟨_, (decide ((bt a0 x8_2) ≤ 70)), zz2, H', ⟨by have := HJ3.out; have := HK2.out; have := HJ9.out; have := HJ13.out; first | omega | exact Nat.le_refl _⟩, zz10⟩
                              · rw [if_neg c19] at H
                                have c19b0 : decide (65 ≤ (bt a0 x8_2)) = false := decide_eq_false c19
                                clear c19
                                (first | rw [c19b0] | (simp only [i64_w, i32_w]; rw [c19b0]) | skip)
                                have H' := Aside0.mk H
                                clear H
                                go_wp2
                                go_meet
                                case rel => exact ⟨_, (false), zz2, H', ⟨by have := HJ3.out; have := HK2.out; have := HJ9.out; have := HJ13.out; first | omega | exact Nat.le_refl _⟩, zz10⟩
                            case rest =>
                              clear HC18
                              try clear c1
                              try clear p2
                              try clear c3
                              try clear c5
                              try clear c5b0
                              try clear c5b1
                              try clear c6
                              try clear p6
                              try clear c7
                              try clear c7b0
                              try clear c8
                              try clear c8b0
                              try clear c9
                              try clear p9
                              try clear q9
                              try clear hx9
                              try clear c11
                              try clear c11b0
                              try clear c12
                              try clear c13
                              try clear c13b0
                              try clear c15
                              try clear c15b0
                              try clear c16
                              try clear c17
                              try clear c17b0
                              try clear c19
                              try clear c19b0
                              try clear p2
                              try clear p6
                              try clear p9
                              try clear q9
                              obtain ⟨kq, x50_17, rfl, HA, HJ17, ⟨mc17, rfl⟩⟩ := hcut
                              cases kq with
                              | zero => exact absurd HA.out (by simp [cardexref01_numeral.j4])
                              | succ kj17 =>
                                have H := HA.out
                                clear HA
                                simp only [cardexref01_numeral.j4] at H
                                by_cases c20 : x50_17 = true
                                · subst c20
                                  have H1 : (if ((((bt a0 x8_2) - 65) % 256) + 10) ≥ a1 then (some (-1)) else (cardexref01_numeral.l0 kj17 a0 a1 (wrap64 ((wrap64 (x7_2 * a1)) + ((((bt a0 x8_2) - 65) % 256) + 10))) (wrap64 (x8_2 + 1)))) = some r := by rw [if_pos rfl] at H; exact H
                                  clear H
                                  have H := H1
                                  clear H1
                                  by_cases c21 : ((((bt a0 x8_2) - 65) % 256) + 10) ≥ a1
                                  · rw [if_pos c21] at H
                                    have c21b0 : decide (a1 ≤ ((((bt a0 x8_2) - 65) % 256) + 10)) = true := decide_eq_true c21
                                    clear c21
                                    obtain rfl := Option.some.inj H
                                    go_wp2
                                    go_ret
                                    exact ⟨zz2, zz10⟩
                                  · rw [if_neg c21] at H
                                    have c21b0 : decide (a1 ≤ ((((bt a0 x8_2) - 65) % 256) + 10)) = false := decide_eq_false c21
                                    clear c21
                                    have H' := Aside0.mk H
                                    clear H
                                    go_wp2
                                    go_roundg kj17
                                    case measure => have := HJ3.out; have := HK2.out; have := HJ9.out; have := HJ13.out; have := HJ17.out; omega
                                    case rel => exact ⟨(wrap64 ((wrap64 (x7_2 * a1)) + ((((bt a0 x8_2) - 65) % 256) + 10))), (wrap64 (x8_2 + 1)), zz2, zz2, H', ⟨by have := HJ3.out; have := HK2.out; have := HJ9.out; have := HJ13.out; have := HJ17.out; omega⟩, zz10⟩
                                · replace c20 := Bool.eq_false_iff.mpr c20
                                  subst c20
                                  have H1 : (if 99 ≥ a1 then (some (-1)) else (cardexref01_numeral.l0 kj17 a0 a1 (wrap64 ((wrap64 (x7_2 * a1)) + 99)) (wrap64 (x8_2 + 1)))) = some r := by rw [if_neg (show ¬ (false = true) by decide)] at H; exact H
                                  clear H
                                  have H := H1
                                  clear H1
                                  by_cases c22 : 99 ≥ a1
                                  · rw [if_pos c22] at H
                                    have c22b0 : decide (a1 ≤ 99) = true := decide_eq_true c22
                                    clear c22
                                    obtain rfl := Option.some.inj H
                                    go_wp2
                                    go_ret
                                    exact ⟨zz2, zz10⟩
                                  · rw [if_neg c22] at H
                                    have c22b0 : decide (a1 ≤ 99) = false := decide_eq_false c22
                                    clear c22
                                    have H' := Aside0.mk H
                                    clear H
                                    go_wp2
                                    go_roundg kj17
                                    case measure => have := HJ3.out; have := HK2.out; have := HJ9.out; have := HJ13.out; have := HJ17.out; omega
                                    case rel => exact ⟨(wrap64 ((wrap64 (x7_2 * a1)) + 99)), (wrap64 (x8_2 + 1)), zz2, zz2, H', ⟨by have := HJ3.out; have := HK2.out; have := HJ9.out; have := HJ13.out; have := HJ17.out; omega⟩, zz10⟩
              · rw [if_neg c8] at H
                exact absurd H (by simp)
            · rw [if_neg c7] at H
              have c7b0 : decide (x8_2 < (a0.size : Int)) = false := decide_eq_false c7
              clear c7
              obtain rfl := Option.some.inj H
              go_wp2
              go_ret
              exact ⟨zz2, zz10⟩
def cardexref01_utf.f (a0 : Int) : Option ByteArray := some (Utf8.encode (wrap32 a0))
set_option maxHeartbeats 4000000 in
set_option maxRecDepth 100000 in
theorem cardexref01_utf.calls (a0 : Int) (r : ByteArray) (w : World) (h : cardexref01_utf.f a0 = some r) :
    Calls Tryz.prog 69 #[.int .i64 a0] w fun e w' => e = .returned (.string r) ∧ Below w.heap.size w w' := by
  obtain rfl := Option.some.inj h
  clear h
  have hcv : (convert 60 9 (.slice (some ⟨w.heap.size, 0, none⟩) 1 1)).run Tryz.prog (w.alloc (.cells #[.int .i32 (wrap32 a0)] 21)) = .ok (.string (Utf8.encode (wrap32 a0))) (w.alloc (.cells #[.int .i32 (wrap32 a0)] 21)) := by
    have h1 := run_convert_runes (P := Tryz.prog) (w.alloc (.cells #[.int .i32 (wrap32 a0)] 21)) 60 9 21 ⟨w.heap.size, 0, none⟩ 1 1 [wrap32 a0] (Nat.le_refl _) Tryz.underlying60 Tryz.underlying21 Tryz.underlying9 (fun j hj => by
      have : j = 0 := by simp at hj; omega
      subst this
      exact blk_cell (heap_alloc_new w _) 0)
    rw [h1]
    simp [runesBytes]
  go_enter Tryz.func69, Tryz.ntmps69
  go_wp2
  go_ret
  exact ⟨rfl, below_alloc (Below.refl _ _) _⟩
end Go.Proofs.YtjijbncheikagaaGreatDoor.Q
