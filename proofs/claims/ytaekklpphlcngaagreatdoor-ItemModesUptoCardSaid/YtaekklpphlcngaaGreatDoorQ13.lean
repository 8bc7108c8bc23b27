-- Written by hookprint.py (wip/) of this session: the kit's print with hand-proved functions beside it. Not trusted: Lean checks it.
import Derived.Test.YtaekklpphlcngaaGreatDoorQ0
import Derived.Test.YtaekklpphlcngaaGreatDoorQ12
namespace Go.Proofs.YtaekklpphlcngaaGreatDoor.Q
open List (setIfInBounds_toArray set_cons_zero set_cons_succ)
open Go.RowKit Go.Lib Go.Proofs.YtaekklpphlcngaaGreatDoorX Go.Proofs.YtaekklpphlcngaaGreatDoorW.PrintWords Go.Proofs.YtaekklpphlcngaaGreatDoorW.PrintLast Go.Proofs.YtaekklpphlcngaaGreatDoorW.PrintMore
set_option linter.unusedVariables false
set_option linter.unusedSimpArgs false
mutual
def cardexref01_Domain.j0 : Nat → ByteArray → Int → Bool → Option (ByteArray × Int)
 | 0, _, _, _ => none
 | k + 1, x4, x5, x26 => if x26 = true then (if 0 ≤ (wrap64 ((x4.size : Int) - 1)) then (if (wrap64 ((x4.size : Int) - 1)) ≤ (x4.size : Int) then (cardexref01_Domain.j1 k (x4.extract 0 ((wrap64 ((x4.size : Int) - 1)) : Int).toNat) x5) else (none)) else (none)) else (cardexref01_Domain.j1 k x4 x5)
def cardexref01_Domain.j1 : Nat → ByteArray → Int → Option (ByteArray × Int)
 | 0, _, _ => none
 | k + 1, x4, x5 => if (x4.size : Int) < 1 then (cardexref01_Domain.j2 k x4 x5 true) else (cardexref01_Domain.j2 k x4 x5 (decide ((x4.size : Int) > 100)))
def cardexref01_Domain.j2 : Nat → ByteArray → Int → Bool → Option (ByteArray × Int)
 | 0, _, _, _ => none
 | k + 1, x4, x5, x39 => if x39 = true then (some ((⟨#[]⟩ : ByteArray), 14)) else (cardexref01_Domain.l0 k x4 x5 0 0)
def cardexref01_Domain.l0 : Nat → ByteArray → Int → Int → Int → Option (ByteArray × Int)
 | 0, _, _, _, _ => none
 | k + 1, x4, x5, x6, x7 => if x7 ≤ (x4.size : Int) then (if x7 < (x4.size : Int) then (if 0 ≤ x7 then (cardexref01_Domain.j4 k x4 x5 x6 x7 ((bt x4 x7) != 46)) else (none)) else (cardexref01_Domain.j4 k x4 x5 x6 x7 false)) else (some (x4, x5))
def cardexref01_Domain.j4 : Nat → ByteArray → Int → Int → Int → Bool → Option (ByteArray × Int)
 | 0, _, _, _, _, _ => none
 | k + 1, x4, x5, x6, x7, x55 => if x55 = true then (cardexref01_Domain.l0 k x4 x5 x6 (wrap64 (x7 + 1))) else (if 0 ≤ x6 then (if x6 ≤ x7 then (if x7 ≤ (x4.size : Int) then ((some (x4.extract (x6 : Int).toNat (x7 : Int).toNat : ByteArray)).bind fun y440 => (if y440.toList = ([] : List UInt8) then (some ((⟨#[]⟩ : ByteArray), 14)) else (if 0 < (y440.size : Int) then (if (bt y440 0) = 45 then (some ((⟨#[]⟩ : ByteArray), 14)) else (if 0 ≤ (wrap64 ((y440.size : Int) - 1)) then (if (wrap64 ((y440.size : Int) - 1)) < (y440.size : Int) then (if (bt y440 (wrap64 ((y440.size : Int) - 1))) = 45 then (some ((⟨#[]⟩ : ByteArray), 14)) else (cardexref01_Domain.l0 k x4 x5 (wrap64 (x7 + 1)) (wrap64 (x7 + 1)))) else (none)) else (none))) else (none)))) else (none)) else (none)) else (none))
end
def cardexref01_Domain.f (k : Nat) (a0 : ByteArray) : Option (ByteArray × Int) := (cardexref01_Host.f k a0).bind fun bt437 => (if bt437.2 = 0 then (if bt437.1.toList = ([] : List UInt8) then (cardexref01_Domain.j0 k bt437.1 bt437.2 false) else (if 0 ≤ (wrap64 ((bt437.1.size : Int) - 1)) then (if (wrap64 ((bt437.1.size : Int) - 1)) < (bt437.1.size : Int) then (cardexref01_Domain.j0 k bt437.1 bt437.2 ((bt bt437.1 (wrap64 ((bt437.1.size : Int) - 1))) == 46)) else (none)) else (none))) else (some ((⟨#[]⟩ : ByteArray), bt437.2)))
set_option maxHeartbeats 8000000 in
set_option maxRecDepth 100000 in
theorem cardexref01_Domain.calls (k : Nat) (a0 : ByteArray) (r1 : ByteArray) (r2 : Int) (w : World) (h : cardexref01_Domain.f k a0 = some (r1, r2)) :
  Calls Tryz.prog 57 #[.string a0] w fun e w' => e = .returned (.tuple #[.string r1, .int .i64 r2]) ∧ Below w.heap.size w w' := by
 have HB := Aside0.mk (Below.refl w.heap.size w)
 have H : ((cardexref01_Host.f k a0).bind fun bt437 => (if bt437.2 = 0 then (if bt437.1.toList = ([] : List UInt8) then (cardexref01_Domain.j0 k bt437.1 bt437.2 false) else (if 0 ≤ (wrap64 ((bt437.1.size : Int) - 1)) then (if (wrap64 ((bt437.1.size : Int) - 1)) < (bt437.1.size : Int) then (cardexref01_Domain.j0 k bt437.1 bt437.2 ((bt bt437.1 (wrap64 ((bt437.1.size : Int) - 1))) == 46)) else (none)) else (none))) else (some ((⟨#[]⟩ : ByteArray), bt437.2)))) = some (r1, r2) := h
 clear h
 replace H := Option.bind_eq_some_iff.mp H
 obtain ⟨⟨t437, t438⟩, A20, H⟩ := H
 try dsimp only at H
 have A2 := Aside0.mk A20
 clear A20
 by_cases c3 : t438 = 0
 ·rw [if_pos c3] at H
  obtain ⟨c3b0, c3b1⟩ := eqT c3
  clear c3
  have HC4 := Aside0.mk H
  clear H
  go_enter Tryz.func57, Tryz.ntmps57
  go_upto_region 4 with (first | ((with_reducible refine gc 78 ?_); refine gL (some 11) Tryz.func78 #[.string a0] ?_; (with_reducible refine (cardexref01_Host.calls k a0 t437 t438 _ A2.out).mono ?_); rintro e w5 ⟨rfl, hb⟩; refine ⟨_, rfl, ?_⟩; replace HB := Aside0.mk (below_step zz0 hb); (try clear hb)))
  (try simp only [Act.put, setIfInBounds_toArray, set_cons_zero, set_cons_succ])
  go_cut [26] (fun v26 wc => ∃ (kq : Nat) (x26_3 : Bool), v26 = .bool x26_3 ∧ Aside0 (cardexref01_Domain.j0 kq t437 t438 x26_3 = some (r1, r2)) ∧ Aside0 (kq ≤ k) ∧ Aside0 (Below w.heap.size w wc))
  case first =>
   have H := HC4.out
   clear HC4
   by_cases c6 : t437.toList = ([] : List UInt8)
   ·rw [if_pos c6] at H
    obtain ⟨c6b0, c6b1⟩ := eqT c6
    clear c6
    (first | rw [c6b0] | (simp only [i64_w, i32_w]; rw [c6b0]) | skip)
    have H' := Aside0.mk H
    clear H
    go_wp2
    go_meet
    case rel => exact ⟨_, (false), zz1, H', ⟨zz57⟩, ⟨zz0⟩⟩
   rw [if_neg c6] at H
   obtain ⟨c6b0, c6b1⟩ := eqF c6
   (first | rw [c6b0] | (simp only [i64_w, i32_w]; rw [c6b0]) | skip)
   obtain ⟨ji7, hji7⟩ : ∃ j_ : Int, (wrap64 ((t437.size : Int) - 1)) = j_ := ⟨_, rfl⟩
   replace H : (if 0 ≤ (ji7) then (if (ji7) < (t437.size : Int) then (cardexref01_Domain.j0 k t437 t438 ((bt t437 (ji7)) == 46)) else (none)) else (none)) = some (r1, r2) := by first | (rw [hji7] at H; exact H) | (simp only [hji7] at H ⊢; exact H)
   have hji7w : (IntKind.i64.wrap ((t437.size : Int) - 1)) = ji7 := (i64_w _).trans hji7
   by_cases c8 : 0 ≤ (ji7)
   ·rw [if_pos c8] at H
    have c8b0 := decide_eq_true c8
    clear c8
    by_cases c9 : (ji7) < (t437.size : Int)
    ·rw [if_pos c9] at H
     have c9b0 := decide_eq_true c9
     clear c9
     have H' := Aside0.mk H
     clear H
     have p10 : 0 ≤ ((ji7) : Int) := of_decide_eq_true zz6
     have q10 : (ji7) < (t437.size : Int) := of_decide_eq_true zz6
     have hx10 := bt_at t437 (ji7)
     replace p10 := eq_true p10
     replace q10 := eq_true q10
     go_wp2
     go_meet
     case rel => exact ⟨_, (((bt t437 (ji7)) == 46)), (by first | rfl | (simp; done) | (simp only [← hji7] <;> (first | rfl | simp)) | exact congrArg Value.bool (nemp _) | exact congrArg Value.bool (emp _) | (simp [*]; done)), H', ⟨zz57⟩, ⟨zz0⟩⟩
    rw [if_neg c9] at H
    exact absurd H (by simp)
   rw [if_neg c8] at H
   exact absurd H (by simp)
  case rest =>
   clear HC4
   try clear p1
   try clear q1
   try clear hx1
   try clear p2
   try clear c3
   try clear c3b0
   try clear c3b1
   try clear c5
   try clear c6
   try clear c6b0
   try clear c6b1
   try clear p6
   try clear c7
   try clear c8
   try clear c8b0
   try clear c9
   try clear c9b0
   try clear p10
   try clear q10
   try clear hx10
   try clear p10
   try clear q10
   obtain ⟨kq, x26_3, rfl, HA, HJ3, HB⟩ := hcut
   cases kq with
   | zero => exact absurd HA.out (by simp [cardexref01_Domain.j0])
   | succ kj3 =>
    have H := HA.out
    clear HA
    simp only [cardexref01_Domain.j0] at H
    have HC11 := Aside0.mk H
    clear H
    go_upto_if 26 with (fail)
    go_cut [4] (fun v4 wc => ∃ (kq : Nat) (x4_10 : ByteArray), v4 = .string x4_10 ∧ Aside0 (cardexref01_Domain.j1 kq x4_10 t438 = some (r1, r2)) ∧ Aside0 (kq ≤ kj3) ∧ Aside0 (Below w.heap.size w wc))
    case first =>
     have H := HC11.out
     clear HC11
     by_cases c12 : x26_3 = true
     ·subst c12
      have H1 : (if 0 ≤ (wrap64 ((t437.size : Int) - 1)) then (if (wrap64 ((t437.size : Int) - 1)) ≤ (t437.size : Int) then (cardexref01_Domain.j1 kj3 (t437.extract 0 ((wrap64 ((t437.size : Int) - 1)) : Int).toNat) t438) else (none)) else (none)) = some (r1, r2) := by rw [if_pos rfl] at H; exact H
      clear H
      have H := H1
      clear H1
      obtain ⟨ji13, hji13⟩ : ∃ j_ : Int, (wrap64 ((t437.size : Int) - 1)) = j_ := ⟨_, rfl⟩
      replace H : (if 0 ≤ (ji13) then (if (ji13) ≤ (t437.size : Int) then (cardexref01_Domain.j1 kj3 (t437.extract 0 ((ji13) : Int).toNat) t438) else (none)) else (none)) = some (r1, r2) := by first | (rw [hji13] at H; exact H) | (simp only [hji13] at H ⊢; exact H)
      have hji13w : (IntKind.i64.wrap ((t437.size : Int) - 1)) = ji13 := (i64_w _).trans hji13
      by_cases c14 : 0 ≤ (ji13)
      ·rw [if_pos c14] at H
       have c14b0 := eq_true c14
       have c14b1 : decide (0 ≤ (ji13)) = true := decide_eq_true c14
       clear c14
       by_cases c15 : (ji13) ≤ (t437.size : Int)
       ·rw [if_pos c15] at H
        have c15b0 := eq_true c15
        have c15b1 : decide ((ji13) ≤ (t437.size : Int)) = true := decide_eq_true c15
        clear c15
        obtain ⟨y439, hy439⟩ : ∃ y_ : ByteArray, y_ = (t437.extract 0 ((ji13) : Int).toNat) := ⟨_, rfl⟩
        replace H : (cardexref01_Domain.j1 kj3 y439 t438) = some (r1, r2) := by first | (rw [hy439]; with_reducible exact H) | (have H2_ := (Option.bind_some _ _).symm.trans H; rw [hy439]; with_reducible exact H2_) | (have H2_ := (Option.bind_some _ _).symm.trans H; with_reducible exact H2_) | with_reducible exact H | (rw [hy439]; exact H) | exact H
        have Ny439 := Aside0.mk hy439
        clear hy439
        have ey439 : (t437.extract 0 ((ji13) : Int).toNat) = y439 := Ny439.out.symm
        have H' := Aside0.mk H
        clear H
        go_wp2
        go_meet
        case rel => exact ⟨_, (y439), zz1, H', ⟨by have := HJ3.out; first | omega | exact Nat.le_refl _⟩, ⟨zz0⟩⟩
       rw [if_neg c15] at H
       exact absurd H (by simp)
      rw [if_neg c14] at H
      exact absurd H (by simp)
     replace c12 := Bool.eq_false_iff.mpr c12
     subst c12
     have H1 : (cardexref01_Domain.j1 kj3 t437 t438) = some (r1, r2) := by rw [if_neg (show ¬ (false = true) by decide)] at H; exact H
     clear H
     have H := H1
     clear H1
     have H' := Aside0.mk H
     clear H
     go_wp2
     go_meet
     case rel => exact ⟨_, (t437), zz1, H', ⟨by have := HJ3.out; first | omega | exact Nat.le_refl _⟩, ⟨zz0⟩⟩
    case rest =>
     clear HC11
     try clear c1
     try clear p1
     try clear q1
     try clear hx1
     try clear p2
     try clear c3
     try clear c3b0
     try clear c3b1
     try clear c5
     try clear c6
     try clear c6b0
     try clear c6b1
     try clear p6
     try clear c7
     try clear c8
     try clear c8b0
     try clear c9
     try clear c9b0
     try clear p10
     try clear q10
     try clear hx10
     try clear c12
     try clear c14
     try clear c14b0
     try clear c14b1
     try clear c15
     try clear c15b0
     try clear c15b1
     try clear p1
     try clear p10
     try clear p2
     try clear p6
     try clear q1
     try clear q10
     obtain ⟨kq, x4_10, rfl, HA, HJ10, HB⟩ := hcut
     cases kq with
     | zero => exact absurd HA.out (by simp [cardexref01_Domain.j1])
     | succ kj10 =>
      have H := HA.out
      clear HA
      simp only [cardexref01_Domain.j1] at H
      have HC16 := Aside0.mk H
      clear H
      go_upto_region 6 with (fail)
      go_cut [39] (fun v39 wc => ∃ (kq : Nat) (x39_15 : Bool), v39 = .bool x39_15 ∧ Aside0 (cardexref01_Domain.j2 kq x4_10 t438 x39_15 = some (r1, r2)) ∧ Aside0 (kq ≤ kj10) ∧ Aside0 (Below w.heap.size w wc))
      case first =>
       have H := HC16.out
       clear HC16
       by_cases c17 : (x4_10.size : Int) < 1
       ·rw [if_pos c17] at H
        have c17b0 := decide_eq_true c17
        have c17b1 : decide (x4_10.size < 1) = true := decide_eq_true (by omega)
        clear c17
        (first | rw [c17b0] | (simp only [i64_w, i32_w]; rw [c17b0]) | skip)
        have H' := Aside0.mk H
        clear H
        go_wp2
        go_meet
        case rel => exact ⟨_, (true), zz1, H', ⟨by have := HJ3.out; have := HJ10.out; first | omega | exact Nat.le_refl _⟩, ⟨zz0⟩⟩
       rw [if_neg c17] at H
       have c17b0 := decide_eq_false c17
       have c17b1 : decide (x4_10.size < 1) = false := decide_eq_false (by omega)
       clear c17
       (first | rw [c17b0] | (simp only [i64_w, i32_w]; rw [c17b0]) | skip)
       have H' := Aside0.mk H
       clear H
       go_wp2
       go_meet
       case rel => exact ⟨_, (decide ((x4_10.size : Int) > 100)), zz1, H', ⟨by have := HJ3.out; have := HJ10.out; first | omega | exact Nat.le_refl _⟩, ⟨zz0⟩⟩
      case rest =>
       clear HC16
       try clear c1
       try clear p1
       try clear q1
       try clear hx1
       try clear p2
       try clear c3
       try clear c3b0
       try clear c3b1
       try clear c5
       try clear c6
       try clear c6b0
       try clear c6b1
       try clear p6
       try clear c7
       try clear c8
       try clear c8b0
       try clear c9
       try clear c9b0
       try clear p10
       try clear q10
       try clear hx10
       try clear c12
       try clear c14
       try clear c14b0
       try clear c14b1
       try clear c15
       try clear c15b0
       try clear c15b1
       try clear c17
       try clear c17b0
       try clear c17b1
       try clear p1
       try clear p10
       try clear p2
       try clear p6
       try clear q1
       try clear q10
       obtain ⟨kq, x39_15, rfl, HA, HJ15, HB⟩ := hcut
       cases kq with
       | zero => exact absurd HA.out (by simp [cardexref01_Domain.j2])
       | succ kj15 =>
        have H := HA.out
        clear HA
        simp only [cardexref01_Domain.j2] at H
        by_cases c18 : x39_15 = true
        ·subst c18
         have H1 : (some ((⟨#[]⟩ : ByteArray), 14)) = some (r1, r2) := by rw [if_pos rfl] at H; exact H
         clear H
         have H := H1
         clear H1
         simp only [Option.some.injEq, Prod.mk.injEq] at H
         obtain ⟨rfl, rfl⟩ := H
         go_wp2
         go_ret2
         exact ⟨zz4, zz0⟩
        replace c18 := Bool.eq_false_iff.mpr c18
        subst c18
        have H1 : (cardexref01_Domain.l0 kj15 x4_10 t438 0 0) = some (r1, r2) := by rw [if_neg (show ¬ (false = true) by decide)] at H; exact H
        clear H
        have H := H1
        clear H1
        have H' := Aside0.mk H
        clear H
        go_wp2
        go_loopg [6, 7] kj15 (fun kq v6 v7 w' => ∃ (x6_4 : Int) (x7_4 : Int), v6 = .int .i64 x6_4 ∧ v7 = .int .i64 x7_4 ∧ Aside0 (cardexref01_Domain.l0 kq x4_10 t438 x6_4 x7_4 = some (r1, r2)) ∧ Aside0 (kq ≤ kj15) ∧ Aside0 (Below w.heap.size w w'))
        case atStart => exact ⟨(0), (0), zz1, zz1, H', ⟨Nat.le_refl _⟩, ⟨zz0⟩⟩
        case round =>
         clear H'
         try clear c1
         try clear p1
         try clear q1
         try clear hx1
         try clear p2
         try clear c3
         try clear c3b0
         try clear c3b1
         try clear c5
         try clear c6
         try clear c6b0
         try clear c6b1
         try clear p6
         try clear c7
         try clear c8
         try clear c8b0
         try clear c9
         try clear c9b0
         try clear p10
         try clear q10
         try clear hx10
         try clear c12
         try clear c14
         try clear c14b0
         try clear c14b1
         try clear c15
         try clear c15b0
         try clear c15b1
         try clear c17
         try clear c17b0
         try clear c17b1
         try clear c18
         try clear p1
         try clear p10
         try clear p2
         try clear p6
         try clear q1
         try clear q10
         obtain ⟨x6_4, x7_4, rfl, rfl, HA, HK4, HB⟩ := hrel
         cases gk with
         | zero => exact absurd HA.out (by simp [cardexref01_Domain.l0])
         | succ k4 =>
          have H := HA.out
          clear HA
          simp only [cardexref01_Domain.l0] at H
          by_cases c19 : x7_4 ≤ (x4_10.size : Int)
          ·rw [if_pos c19] at H
           have c19b0 := decide_eq_true c19
           clear c19
           have HC20 := Aside0.mk H
           clear H
           go_upto_region 12 with (fail)
           go_cut [55] (fun v55 wc => ∃ (kq : Nat) (x55_19 : Bool), v55 = .bool x55_19 ∧ Aside0 (cardexref01_Domain.j4 kq x4_10 t438 x6_4 x7_4 x55_19 = some (r1, r2)) ∧ Aside0 (kq ≤ k4) ∧ Aside0 (Below w.heap.size w wc))
           case first =>
            have H := HC20.out
            clear HC20
            by_cases c21 : x7_4 < (x4_10.size : Int)
            ·rw [if_pos c21] at H
             have c21b0 := decide_eq_true c21
             clear c21
             (first | rw [c21b0] | (simp only [i64_w, i32_w]; rw [c21b0]) | skip)
             by_cases c22 : 0 ≤ x7_4
             ·rw [if_pos c22] at H
              have c22b0 := decide_eq_true c22
              clear c22
              have H' := Aside0.mk H
              clear H
              have p23 : 0 ≤ (x7_4 : Int) := of_decide_eq_true zz6
              have q23 : x7_4 < (x4_10.size : Int) := of_decide_eq_true zz6
              have hx23 := bt_at x4_10 x7_4
              replace p23 := eq_true p23
              replace q23 := eq_true q23
              go_wp2
              go_meet
              case rel => exact ⟨_, (((bt x4_10 x7_4) != 46)), zz1, H', ⟨by have := HJ3.out; have := HJ10.out; have := HJ15.out; have := HK4.out; first | omega | exact Nat.le_refl _⟩, ⟨zz0⟩⟩
             rw [if_neg c22] at H
             exact absurd H (by simp)
            rw [if_neg c21] at H
            have c21b0 := decide_eq_false c21
            clear c21
            (first | rw [c21b0] | (simp only [i64_w, i32_w]; rw [c21b0]) | skip)
            have H' := Aside0.mk H
            clear H
            go_wp2
            go_meet
            case rel => exact ⟨_, (false), zz1, H', ⟨by have := HJ3.out; have := HJ10.out; have := HJ15.out; have := HK4.out; first | omega | exact Nat.le_refl _⟩, ⟨zz0⟩⟩
           case rest =>
            clear HC20
            try clear c1
            try clear p1
            try clear q1
            try clear hx1
            try clear c2
            try clear p2
            try clear q2
            try clear hx2
            try clear c3
            try clear c3b0
            try clear c3b1
            try clear c5
            try clear c6
            try clear c6b0
            try clear c6b1
            try clear p6
            try clear c7
            try clear c8
            try clear c8b0
            try clear c9
            try clear c9b0
            try clear p10
            try clear q10
            try clear hx10
            try clear c12
            try clear c14
            try clear c14b0
            try clear c14b1
            try clear c15
            try clear c15b0
            try clear c15b1
            try clear c17
            try clear c17b0
            try clear c17b1
            try clear c18
            try clear c19
            try clear c19b0
            try clear c21
            try clear c21b0
            try clear c22
            try clear c22b0
            try clear p23
            try clear q23
            try clear hx23
            try clear p1
            try clear p10
            try clear p2
            try clear p23
            try clear p6
            try clear q1
            try clear q10
            try clear q23
            obtain ⟨kq, x55_19, rfl, HA, HJ19, HB⟩ := hcut
            cases kq with
            | zero => exact absurd HA.out (by simp [cardexref01_Domain.j4])
            | succ kj19 =>
             have H := HA.out
             clear HA
             simp only [cardexref01_Domain.j4] at H
             by_cases c24 : x55_19 = true
             ·subst c24
              have H1 : (cardexref01_Domain.l0 kj19 x4_10 t438 x6_4 (wrap64 (x7_4 + 1))) = some (r1, r2) := by rw [if_pos rfl] at H; exact H
              clear H
              have H := H1
              clear H1
              have H' := Aside0.mk H
              clear H
              go_wp2
              go_roundg kj19
              case measure => have := HJ3.out; have := HJ10.out; have := HJ15.out; have := HK4.out; have := HJ19.out; omega
              case rel => exact ⟨(x6_4), (wrap64 (x7_4 + 1)), zz1, zz1, H', ⟨by have := HJ3.out; have := HJ10.out; have := HJ15.out; have := HK4.out; have := HJ19.out; omega⟩, ⟨zz0⟩⟩
             replace c24 := Bool.eq_false_iff.mpr c24
             subst c24
             have H1 : (if 0 ≤ x6_4 then (if x6_4 ≤ x7_4 then (if x7_4 ≤ (x4_10.size : Int) then ((some (x4_10.extract (x6_4 : Int).toNat (x7_4 : Int).toNat : ByteArray)).bind fun y440 => (if y440.toList = ([] : List UInt8) then (some ((⟨#[]⟩ : ByteArray), 14)) else (if 0 < (y440.size : Int) then (if (bt y440 0) = 45 then (some ((⟨#[]⟩ : ByteArray), 14)) else (if 0 ≤ (wrap64 ((y440.size : Int) - 1)) then (if (wrap64 ((y440.size : Int) - 1)) < (y440.size : Int) then (if (bt y440 (wrap64 ((y440.size : Int) - 1))) = 45 then (some ((⟨#[]⟩ : ByteArray), 14)) else (cardexref01_Domain.l0 kj19 x4_10 t438 (wrap64 (x7_4 + 1)) (wrap64 (x7_4 + 1)))) else (none)) else (none))) else (none)))) else (none)) else (none)) else (none)) = some (r1, r2) := by rw [if_neg (show ¬ (false = true) by decide)] at H; exact H
             clear H
             have H := H1
             clear H1
             by_cases c25 : 0 ≤ x6_4
             ·rw [if_pos c25] at H
              have c25b0 := eq_true c25
              have c25b1 : decide (0 ≤ x6_4) = true := decide_eq_true c25
              clear c25
              by_cases c26 : x6_4 ≤ x7_4
              ·rw [if_pos c26] at H
               have c26b0 := eq_true c26
               have c26b1 : decide (x6_4 ≤ x7_4) = true := decide_eq_true c26
               clear c26
               by_cases c27 : x7_4 ≤ (x4_10.size : Int)
               ·rw [if_pos c27] at H
                have c27b0 := eq_true c27
                have c27b1 : decide (x7_4 ≤ (x4_10.size : Int)) = true := decide_eq_true c27
                clear c27
                obtain ⟨y440, hy440⟩ : ∃ y_ : ByteArray, y_ = (x4_10.extract (x6_4 : Int).toNat (x7_4 : Int).toNat) := ⟨_, rfl⟩
                replace H : (if y440.toList = ([] : List UInt8) then (some ((⟨#[]⟩ : ByteArray), 14)) else (if 0 < (y440.size : Int) then (if (bt y440 0) = 45 then (some ((⟨#[]⟩ : ByteArray), 14)) else (if 0 ≤ (wrap64 ((y440.size : Int) - 1)) then (if (wrap64 ((y440.size : Int) - 1)) < (y440.size : Int) then (if (bt y440 (wrap64 ((y440.size : Int) - 1))) = 45 then (some ((⟨#[]⟩ : ByteArray), 14)) else (cardexref01_Domain.l0 kj19 x4_10 t438 (wrap64 (x7_4 + 1)) (wrap64 (x7_4 + 1)))) else (none)) else (none))) else (none))) = some (r1, r2) := by first | (rw [hy440]; with_reducible exact H) | (have H2_ := (Option.bind_some _ _).symm.trans H; rw [hy440]; with_reducible exact H2_) | (have H2_ := (Option.bind_some _ _).symm.trans H; with_reducible exact H2_) | with_reducible exact H | (rw [hy440]; exact H) | exact H
                have Ny440 := Aside0.mk hy440
                clear hy440
                have ey440 : (x4_10.extract (x6_4 : Int).toNat (x7_4 : Int).toNat) = y440 := Ny440.out.symm
                by_cases c28 : y440.toList = ([] : List UInt8)
                ·rw [if_pos c28] at H
                 obtain ⟨c28b0, c28b1⟩ := eqT c28
                 clear c28
                 simp only [Option.some.injEq, Prod.mk.injEq] at H
                 obtain ⟨rfl, rfl⟩ := H
                 go_wp2
                 go_ret2
                 exact ⟨zz4, zz0⟩
                rw [if_neg c28] at H
                obtain ⟨c28b0, c28b1⟩ := eqF c28
                by_cases c29 : 0 < (y440.size : Int)
                ·rw [if_pos c29] at H
                 have c29b0 := decide_eq_true c29
                 have c29b1 : decide (0 < y440.size) = true := decide_eq_true (by omega)
                 clear c29
                 by_cases c31 : (bt y440 0) = 45
                 ·rw [if_pos c31] at H
                  obtain ⟨c31b0, c31b1⟩ := eqT c31
                  clear c31
                  simp only [Option.some.injEq, Prod.mk.injEq] at H
                  obtain ⟨rfl, rfl⟩ := H
                  have p30 : 0 ≤ (0 : Int) := (by omega)
                  have q30 : 0 < y440.size := (by have : (0 : Int) < (y440.size : Int) := of_decide_eq_true zz6; omega)
                  have hx30 : ∀ h : 0 < y440.size, ((y440[0]'h).toNat : Int) = bt y440 0 := bt_at y440 0
                  clear p30
                  have qi30 : (0 < (y440.size : Int)) = True := eq_true (of_decide_eq_true zz6)
                  replace q30 := eq_true q30
                  go_wp2
                  go_ret2
                  exact ⟨zz4, zz0⟩
                 rw [if_neg c31] at H
                 obtain ⟨c31b0, c31b1⟩ := eqF c31
                 obtain ⟨ji32, hji32⟩ : ∃ j_ : Int, (wrap64 ((y440.size : Int) - 1)) = j_ := ⟨_, rfl⟩
                 replace H : (if 0 ≤ (ji32) then (if (ji32) < (y440.size : Int) then (if (bt y440 (ji32)) = 45 then (some ((⟨#[]⟩ : ByteArray), 14)) else (cardexref01_Domain.l0 kj19 x4_10 t438 (wrap64 (x7_4 + 1)) (wrap64 (x7_4 + 1)))) else (none)) else (none)) = some (r1, r2) := by first | (rw [hji32] at H; exact H) | (simp only [hji32] at H ⊢; exact H)
                 have hji32w : (IntKind.i64.wrap ((y440.size : Int) - 1)) = ji32 := (i64_w _).trans hji32
                 by_cases c33 : 0 ≤ (ji32)
                 ·rw [if_pos c33] at H
                  have c33b0 := decide_eq_true c33
                  clear c33
                  by_cases c34 : (ji32) < (y440.size : Int)
                  ·rw [if_pos c34] at H
                   have c34b0 := decide_eq_true c34
                   clear c34
                   by_cases c36 : (bt y440 (ji32)) = 45
                   ·rw [if_pos c36] at H
                    obtain ⟨c36b0, c36b1⟩ := eqT c36
                    clear c36
                    simp only [Option.some.injEq, Prod.mk.injEq] at H
                    obtain ⟨rfl, rfl⟩ := H
                    have p30 : 0 ≤ (0 : Int) := (by omega)
                    have q30 : 0 < y440.size := (by have : (0 : Int) < (y440.size : Int) := of_decide_eq_true zz6; omega)
                    have hx30 : ∀ h : 0 < y440.size, ((y440[0]'h).toNat : Int) = bt y440 0 := bt_at y440 0
                    clear p30
                    have qi30 : (0 < (y440.size : Int)) = True := eq_true (of_decide_eq_true zz6)
                    replace q30 := eq_true q30
                    have p35 : 0 ≤ ((ji32) : Int) := of_decide_eq_true zz6
                    have q35 : (ji32) < (y440.size : Int) := of_decide_eq_true zz6
                    have hx35 := bt_at y440 (ji32)
                    replace p35 := eq_true p35
                    replace q35 := eq_true q35
                    go_wp2
                    go_ret2
                    exact ⟨by first | rfl | (simp only [nemp]; rfl) | (simp [errW_none, errW_some] <;> rfl) | (simp only [← hji32]; first | rfl | (simp [errW_none, errW_some] <;> rfl)) | (simp [*, errW_none, errW_some] <;> rfl), zz0⟩
                   rw [if_neg c36] at H
                   obtain ⟨c36b0, c36b1⟩ := eqF c36
                   have H' := Aside0.mk H
                   clear H
                   have p30 : 0 ≤ (0 : Int) := (by omega)
                   have q30 : 0 < y440.size := (by have : (0 : Int) < (y440.size : Int) := of_decide_eq_true zz6; omega)
                   have hx30 : ∀ h : 0 < y440.size, ((y440[0]'h).toNat : Int) = bt y440 0 := bt_at y440 0
                   clear p30
                   have qi30 : (0 < (y440.size : Int)) = True := eq_true (of_decide_eq_true zz6)
                   replace q30 := eq_true q30
                   have p35 : 0 ≤ ((ji32) : Int) := of_decide_eq_true zz6
                   have q35 : (ji32) < (y440.size : Int) := of_decide_eq_true zz6
                   have hx35 := bt_at y440 (ji32)
                   replace p35 := eq_true p35
                   replace q35 := eq_true q35
                   go_wp2
                   go_roundg kj19
                   case measure => have := HJ3.out; have := HJ10.out; have := HJ15.out; have := HK4.out; have := HJ19.out; omega
                   case rel => exact ⟨(wrap64 (x7_4 + 1)), (wrap64 (x7_4 + 1)), zz1, zz1, H', ⟨by have := HJ3.out; have := HJ10.out; have := HJ15.out; have := HK4.out; have := HJ19.out; omega⟩, ⟨zz0⟩⟩
                  rw [if_neg c34] at H
                  exact absurd H (by simp)
                 rw [if_neg c33] at H
                 exact absurd H (by simp)
                rw [if_neg c29] at H
                exact absurd H (by simp)
               rw [if_neg c27] at H
               exact absurd H (by simp)
              rw [if_neg c26] at H
              exact absurd H (by simp)
             rw [if_neg c25] at H
             exact absurd H (by simp)
          rw [if_neg c19] at H
          have c19b0 := decide_eq_false c19
          clear c19
          simp only [Option.some.injEq, Prod.mk.injEq] at H
          obtain ⟨rfl, rfl⟩ := H
          go_wp2
          go_ret2
          exact ⟨zz4, zz0⟩
 rw [if_neg c3] at H
 obtain ⟨c3b0, c3b1⟩ := eqF c3
 simp only [Option.some.injEq, Prod.mk.injEq] at H
 obtain ⟨rfl, rfl⟩ := H
 go_enter Tryz.func57, Tryz.ntmps57
 go_wp2_with (first | ((with_reducible refine gc 78 ?_); refine gL (some 11) Tryz.func78 #[.string a0] ?_; (with_reducible refine (cardexref01_Host.calls k a0 t437 t438 _ A2.out).mono ?_); rintro e w37 ⟨rfl, hb⟩; refine ⟨_, rfl, ?_⟩; replace HB := Aside0.mk (below_step zz0 hb); (try clear hb)))
 go_ret2
 exact ⟨zz4, zz0⟩
def cardexref01_Node.f (k : Nat) (a0 : ByteArray) : Option (ByteArray × Int) := (cardexref01_prep.f k a0 1).bind fun bt441 => (some (bt441.1, bt441.2))
set_option maxHeartbeats 8000000 in
set_option maxRecDepth 100000 in
theorem cardexref01_Node.calls (k : Nat) (a0 : ByteArray) (r1 : ByteArray) (r2 : Int) (w : World) (h : cardexref01_Node.f k a0 = some (r1, r2)) :
  Calls Tryz.prog 58 #[.string a0] w fun e w' => e = .returned (.tuple #[.string r1, .int .i64 r2]) ∧ Below w.heap.size w w' := by
 have HB := Aside0.mk (Below.refl w.heap.size w)
 have H : ((cardexref01_prep.f k a0 1).bind fun bt441 => (some (bt441.1, bt441.2))) = some (r1, r2) := h
 clear h
 replace H := Option.bind_eq_some_iff.mp H
 obtain ⟨⟨t441, t442⟩, A20, H⟩ := H
 try dsimp only at H
 have A2 := Aside0.mk A20
 clear A20
 simp only [Option.some.injEq, Prod.mk.injEq] at H
 obtain ⟨rfl, rfl⟩ := H
 go_enter Tryz.func58, Tryz.ntmps58
 go_wp2_with (first | ((with_reducible refine gc 79 ?_); refine gL (some 5) Tryz.func79 #[.string a0, .int .i64 1] ?_; (with_reducible refine (cardexref01_prep.calls k a0 1 t441 t442 _ A2.out).mono ?_); rintro e w3 ⟨rfl, hb⟩; refine ⟨_, rfl, ?_⟩; replace HB := Aside0.mk (below_step zz0 hb); (try clear hb)))
 go_ret2
 exact ⟨zz4, zz0⟩
def cardexref01_Resource.f (k : Nat) (a0 : ByteArray) : Option (ByteArray × Int) := (cardexref01_prep.f k a0 3).bind fun bt443 => (some (bt443.1, bt443.2))
set_option maxHeartbeats 8000000 in
set_option maxRecDepth 100000 in
theorem cardexref01_Resource.calls (k : Nat) (a0 : ByteArray) (r1 : ByteArray) (r2 : Int) (w : World) (h : cardexref01_Resource.f k a0 = some (r1, r2)) :
  Calls Tryz.prog 59 #[.string a0] w fun e w' => e = .returned (.tuple #[.string r1, .int .i64 r2]) ∧ Below w.heap.size w w' := by
 have HB := Aside0.mk (Below.refl w.heap.size w)
 have H : ((cardexref01_prep.f k a0 3).bind fun bt443 => (some (bt443.1, bt443.2))) = some (r1, r2) := h
 clear h
 replace H := Option.bind_eq_some_iff.mp H
 obtain ⟨⟨t443, t444⟩, A20, H⟩ := H
 try dsimp only at H
 have A2 := Aside0.mk A20
 clear A20
 simp only [Option.some.injEq, Prod.mk.injEq] at H
 obtain ⟨rfl, rfl⟩ := H
 go_enter Tryz.func59, Tryz.ntmps59
 go_wp2_with (first | ((with_reducible refine gc 79 ?_); refine gL (some 5) Tryz.func79 #[.string a0, .int .i64 3] ?_; (with_reducible refine (cardexref01_prep.calls k a0 3 t443 t444 _ A2.out).mono ?_); rintro e w3 ⟨rfl, hb⟩; refine ⟨_, rfl, ?_⟩; replace HB := Aside0.mk (below_step zz0 hb); (try clear hb)))
 go_ret2
 exact ⟨zz4, zz0⟩
end Go.Proofs.YtaekklpphlcngaaGreatDoor.Q
