-- Written by hookprint.py (wip/) of this session: the kit's print with hand-proved functions beside it. Not trusted: Lean checks it.
import Derived.Test.YtjijbncheikagaaDoorQ0
import Derived.Test.YtjijbncheikagaaDoorQ3
import Derived.Test.YtjijbncheikagaaDoorQ4
namespace Go.Proofs.YtjijbncheikagaaDoor.Q
open Go.RowKit Go.Lib Go.Proofs.YtjijbncheikagaaDoorX Go.Proofs.YtjijbncheikagaaDoorW.PrintWords Go.Proofs.YtjijbncheikagaaDoorW.PrintLast Go.Proofs.YtjijbncheikagaaDoorW.PrintMore
attribute [local go_sem] max2_int min2_int max_two min_two max_three min_three max_four min_four   -- for this text's walks alone
set_option linter.unusedVariables false
set_option linter.unusedSimpArgs false

/-! ### cardexlaw02_EscapeNumbers: function 5 -/
mutual
def cardexlaw02_EscapeNumbers.l0 : Nat → Int → Int → ByteArray → Int → Option (Bool)
  | 0, _, _, _, _ => none
  | k + 1, x0, x1, x5, x6 => if x6 > 0 then (if 0 ≤ (Int.tmod x6 16) then (if (Int.tmod x6 16) ≤ (wrap64 ((Int.tmod x6 16) + 1)) then (if (wrap64 ((Int.tmod x6 16) + 1)) ≤ 16 then ((some ((⟨#[48, 49, 50, 51, 52, 53, 54, 55, 56, 57, 97, 66, 99, 68, 101, 70]⟩ : ByteArray).extract ((Int.tmod x6 16) : Int).toNat ((wrap64 ((Int.tmod x6 16) + 1)) : Int).toNat : ByteArray)).bind fun y164 => (if y164.size + x5.size ≤ 9223372036854775807 then (cardexlaw02_EscapeNumbers.l0 k x0 x1 (y164 ++ x5) (wrap64 (Int.tdiv x6 16))) else (none))) else (none)) else (none)) else (none)) else (if x5.toList = ([] : List UInt8) then (if 0 ≤ (Int.tmod x6 16) then (if (Int.tmod x6 16) ≤ (wrap64 ((Int.tmod x6 16) + 1)) then (if (wrap64 ((Int.tmod x6 16) + 1)) ≤ 16 then ((some ((⟨#[48, 49, 50, 51, 52, 53, 54, 55, 56, 57, 97, 66, 99, 68, 101, 70]⟩ : ByteArray).extract ((Int.tmod x6 16) : Int).toNat ((wrap64 ((Int.tmod x6 16) + 1)) : Int).toNat : ByteArray)).bind fun y165 => (if y165.size + x5.size ≤ 9223372036854775807 then (cardexlaw02_EscapeNumbers.l0 k x0 x1 (y165 ++ x5) (wrap64 (Int.tdiv x6 16))) else (none))) else (none)) else (none)) else (none)) else ((cardexhelp_Digits.f k x0).bind fun t166 => (cardexlaw02_EscapeNumbers.l1 k x0 x1 x5 t166 0)))
def cardexlaw02_EscapeNumbers.j2 : Nat → Int → ByteArray → ByteArray → Option (Bool)
  | 0, _, _, _ => none
  | k + 1, x0, x5, x7 => if 3 + x7.size ≤ 9223372036854775807 then (if ((⟨#[120, 38, 35]⟩ : ByteArray) ++ x7).size + 2 ≤ 9223372036854775807 then ((escape_Back.f (((⟨#[120, 38, 35]⟩ : ByteArray) ++ x7) ++ (⟨#[59, 121]⟩ : ByteArray))).bind fun bt167 => (if 4 + x5.size ≤ 9223372036854775807 then (if ((⟨#[120, 38, 35, 120]⟩ : ByteArray) ++ x5).size + 2 ≤ 9223372036854775807 then ((escape_Back.f (((⟨#[120, 38, 35, 120]⟩ : ByteArray) ++ x5) ++ (⟨#[59, 121]⟩ : ByteArray))).bind fun bt169 => ((cardexref01_Char.f x0).bind fun t171 => (if t171 = true then ((cardexlaw02_awake.f).bind fun t172 => (if t172 = true then (if bt167.2 = 0 then (if bt169.2 = 0 then (if bt167.1.toList = bt169.1.toList then (if 1 + (Utf8.encode (wrap32 (x0))).size ≤ 9223372036854775807 then (if ((⟨#[120]⟩ : ByteArray) ++ (Utf8.encode (wrap32 (x0)))).size + 1 ≤ 9223372036854775807 then (if bt167.1.toList = (((⟨#[120]⟩ : ByteArray) ++ (Utf8.encode (wrap32 (x0)))) ++ (⟨#[121]⟩ : ByteArray)).toList then (some true) else (some false)) else (none)) else (none)) else (some false)) else (some false)) else (some false)) else (some false))) else ((cardexlaw02_awake.f).bind fun t173 => (if t173 = true then (if bt167.2 = 5 then (if bt169.2 = 5 then (some true) else (some false)) else (some false)) else (some false)))))) else (none)) else (none))) else (none)) else (none)
def cardexlaw02_EscapeNumbers.l1 : Nat → Int → Int → ByteArray → ByteArray → Int → Option (Bool)
  | 0, _, _, _, _, _ => none
  | k + 1, x0, x1, x5, x7, x8 => if x8 < x1 then (if (x7.size : Int) < 7 then (if (x5.size : Int) < 6 then (if 1 + x7.size ≤ 9223372036854775807 then (if 1 + x5.size ≤ 9223372036854775807 then (cardexlaw02_EscapeNumbers.l1 k x0 x1 ((⟨#[48]⟩ : ByteArray) ++ x5) ((⟨#[48]⟩ : ByteArray) ++ x7) (wrap64 (x8 + 1))) else (none)) else (none)) else (cardexlaw02_EscapeNumbers.j2 k x0 x5 x7)) else (cardexlaw02_EscapeNumbers.j2 k x0 x5 x7)) else (cardexlaw02_EscapeNumbers.j2 k x0 x5 x7)
end
def cardexlaw02_EscapeNumbers.f (k : Nat) (a0 : Int) (a1 : Int) : Option (Bool) := cardexlaw02_EscapeNumbers.l0 k (wrap64 (Int.tmod (IntKind.u64.wrap (a0)) 1200000)) (wrap64 (Int.tmod (IntKind.u64.wrap (a1)) 3)) (⟨#[]⟩ : ByteArray) (wrap64 (Int.tmod (IntKind.u64.wrap (a0)) 1200000))
theorem cardexlaw02_EscapeNumbers.mono_l : ∀ k, (∀ y0 y1 y2 y3, LeO (cardexlaw02_EscapeNumbers.l0 k y0 y1 y2 y3) (cardexlaw02_EscapeNumbers.l0 (k + 1) y0 y1 y2 y3)) ∧ (∀ y0 y1 y2, LeO (cardexlaw02_EscapeNumbers.j2 k y0 y1 y2) (cardexlaw02_EscapeNumbers.j2 (k + 1) y0 y1 y2)) ∧ (∀ y0 y1 y2 y3 y4, LeO (cardexlaw02_EscapeNumbers.l1 k y0 y1 y2 y3 y4) (cardexlaw02_EscapeNumbers.l1 (k + 1) y0 y1 y2 y3 y4))
  | 0 => ⟨fun _ _ _ _ r h => by simp [cardexlaw02_EscapeNumbers.l0] at h, fun _ _ _ r h => by simp [cardexlaw02_EscapeNumbers.j2] at h, fun _ _ _ _ _ r h => by simp [cardexlaw02_EscapeNumbers.l1] at h⟩
  | k + 1 => by
    obtain ⟨ih0, ih1, ih2⟩ := cardexlaw02_EscapeNumbers.mono_l k
    refine ⟨?_, ?_, ?_⟩
    · intro y0 y1 y2 y3
      unfold cardexlaw02_EscapeNumbers.l0
      repeat' first
      | (with_reducible exact ih0 _ _ _ _)
      | (with_reducible exact ih1 _ _ _)
      | (with_reducible exact ih2 _ _ _ _ _)
      | (with_reducible exact cardexhelp_Digits.mono _ _)
      | (with_reducible exact LeO.refl _)
      | (with_reducible exact LeO.none _)
      | (with_reducible refine LeO.ite ?_ ?_)
      | (with_reducible refine LeO.bind ?_ (fun _ => ?_))
      | exact ih0 _ _ _ _
      | exact ih1 _ _ _
      | exact ih2 _ _ _ _ _
      | exact cardexhelp_Digits.mono _ _
      | exact LeO.none _
      | refine LeO.ite ?_ ?_
      | refine LeO.bind ?_ (fun _ => ?_)
    · intro y0 y1 y2
      unfold cardexlaw02_EscapeNumbers.j2
      repeat' first
      | (with_reducible exact ih0 _ _ _ _)
      | (with_reducible exact ih1 _ _ _)
      | (with_reducible exact ih2 _ _ _ _ _)
      | (with_reducible exact cardexhelp_Digits.mono _ _)
      | (with_reducible exact LeO.refl _)
      | (with_reducible exact LeO.none _)
      | (with_reducible refine LeO.ite ?_ ?_)
      | (with_reducible refine LeO.bind ?_ (fun _ => ?_))
      | exact ih0 _ _ _ _
      | exact ih1 _ _ _
      | exact ih2 _ _ _ _ _
      | exact cardexhelp_Digits.mono _ _
      | exact LeO.none _
      | refine LeO.ite ?_ ?_
      | refine LeO.bind ?_ (fun _ => ?_)
    · intro y0 y1 y2 y3 y4
      unfold cardexlaw02_EscapeNumbers.l1
      repeat' first
      | (with_reducible exact ih0 _ _ _ _)
      | (with_reducible exact ih1 _ _ _)
      | (with_reducible exact ih2 _ _ _ _ _)
      | (with_reducible exact cardexhelp_Digits.mono _ _)
      | (with_reducible exact LeO.refl _)
      | (with_reducible exact LeO.none _)
      | (with_reducible refine LeO.ite ?_ ?_)
      | (with_reducible refine LeO.bind ?_ (fun _ => ?_))
      | exact ih0 _ _ _ _
      | exact ih1 _ _ _
      | exact ih2 _ _ _ _ _
      | exact cardexhelp_Digits.mono _ _
      | exact LeO.none _
      | refine LeO.ite ?_ ?_
      | refine LeO.bind ?_ (fun _ => ?_)
theorem cardexlaw02_EscapeNumbers.mono : ∀ a0 a1 k, LeO (cardexlaw02_EscapeNumbers.f k a0 a1) (cardexlaw02_EscapeNumbers.f (k + 1) a0 a1) := by
  intro a0 a1 k
  obtain ⟨ih0, ih1, ih2⟩ := cardexlaw02_EscapeNumbers.mono_l k
  unfold cardexlaw02_EscapeNumbers.f
  repeat' first
      | (with_reducible exact ih0 _ _ _ _)
      | (with_reducible exact ih1 _ _ _)
      | (with_reducible exact ih2 _ _ _ _ _)
      | (with_reducible exact cardexhelp_Digits.mono _ _)
      | (with_reducible exact LeO.refl _)
      | (with_reducible exact LeO.none _)
      | (with_reducible refine LeO.ite ?_ ?_)
      | (with_reducible refine LeO.bind ?_ (fun _ => ?_))
      | exact ih0 _ _ _ _
      | exact ih1 _ _ _
      | exact ih2 _ _ _ _ _
      | exact cardexhelp_Digits.mono _ _
      | exact LeO.none _
      | refine LeO.ite ?_ ?_
      | refine LeO.bind ?_ (fun _ => ?_)
set_option maxHeartbeats 8000000 in
set_option maxRecDepth 100000 in
theorem cardexlaw02_EscapeNumbers.calls (k : Nat) (a0 : Int) (a1 : Int) (r : Bool) (w : World) (h : cardexlaw02_EscapeNumbers.f k a0 a1 = some r) (hT : Tabs w) (hlaw : r = true) :
    Calls Tryd.prog 5 #[.int .i64 a0, .int .i64 a1] w fun e w' => e = .returned (.bool r) ∧ Below w.heap.size w w' := by
  have HT := Aside0.mk hT
  clear hT
  have HLAW := Aside0.mk hlaw
  clear hlaw
  have HB := Aside0.mk (Below.refl w.heap.size w)
  have H : (cardexlaw02_EscapeNumbers.l0 k (wrap64 (Int.tmod (IntKind.u64.wrap (a0)) 1200000)) (wrap64 (Int.tmod (IntKind.u64.wrap (a1)) 3)) (⟨#[]⟩ : ByteArray) (wrap64 (Int.tmod (IntKind.u64.wrap (a0)) 1200000))) = some r := h
  clear h
  have H' := Aside0.mk H
  clear H
  go_enter Tryd.func5, Tryd.ntmps5
  go_wp2
  go_loopg [5, 6] k (fun kq v5 v6 w' => ∃ (x5_1 : ByteArray) (x6_1 : Int), v5 = .string x5_1 ∧ v6 = .int .i64 x6_1 ∧ Aside0 (cardexlaw02_EscapeNumbers.l0 kq (wrap64 (Int.tmod (IntKind.u64.wrap (a0)) 1200000)) (wrap64 (Int.tmod (IntKind.u64.wrap (a1)) 3)) x5_1 x6_1 = some r) ∧ Aside0 (kq ≤ k) ∧ Aside0 (Below w.heap.size w w'))
  case atStart => exact ⟨((⟨#[]⟩ : ByteArray)), (wrap64 (Int.tmod (IntKind.u64.wrap (a0)) 1200000)), (by first | rfl | (simp; done) | exact congrArg Value.bool (nemp _) | exact congrArg Value.bool (emp _) | (simp [*]; done)), (by first | rfl | (simp; done) | exact congrArg Value.bool (nemp _) | exact congrArg Value.bool (emp _) | (simp [*]; done)), H', ⟨Nat.le_refl _⟩, ⟨by repeat (first | (with_reducible first | exact HB.out | apply below_alloc | apply pw_below_drewN | apply below_drew1) | exact HB.out)⟩⟩
  case round =>
    clear H'
    try clear p2
    obtain ⟨x5_1, x6_1, rfl, rfl, HA, HK1, HB⟩ := hrel
    cases gk with
    | zero => exact absurd HA.out (by simp [cardexlaw02_EscapeNumbers.l0])
    | succ k1 =>
      have H := HA.out
      clear HA
      simp only [cardexlaw02_EscapeNumbers.l0] at H
      by_cases c3 : x6_1 > 0
      · rw [if_pos c3] at H
        have c3b0 : decide (0 < x6_1) = true := decide_eq_true c3
        clear c3
        obtain ⟨ji4, hji4⟩ : ∃ j_ : Int, (Int.tmod x6_1 16) = j_ := ⟨_, rfl⟩
        replace H : (if 0 ≤ (ji4) then (if (ji4) ≤ (wrap64 ((ji4) + 1)) then (if (wrap64 ((ji4) + 1)) ≤ 16 then ((some ((⟨#[48, 49, 50, 51, 52, 53, 54, 55, 56, 57, 97, 66, 99, 68, 101, 70]⟩ : ByteArray).extract ((ji4) : Int).toNat ((wrap64 ((ji4) + 1)) : Int).toNat : ByteArray)).bind fun y164 => (if y164.size + x5_1.size ≤ 9223372036854775807 then (cardexlaw02_EscapeNumbers.l0 k1 (wrap64 (Int.tmod (IntKind.u64.wrap (a0)) 1200000)) (wrap64 (Int.tmod (IntKind.u64.wrap (a1)) 3)) (y164 ++ x5_1) (wrap64 (Int.tdiv x6_1 16))) else (none))) else (none)) else (none)) else (none)) = some r := by first | (rw [hji4] at H; exact H) | (simp only [hji4] at H ⊢; exact H)
        by_cases c5 : 0 ≤ (ji4)
        · rw [if_pos c5] at H
          have c5b0 := eq_true c5
          have c5b1 : decide (0 ≤ (ji4)) = true := decide_eq_true c5
          clear c5
          by_cases c6 : (ji4) ≤ (wrap64 ((ji4) + 1))
          · rw [if_pos c6] at H
            have c6b0 := eq_true c6
            have c6b1 : decide ((ji4) ≤ (wrap64 ((ji4) + 1))) = true := decide_eq_true c6
            by_cases c7 : (wrap64 ((ji4) + 1)) ≤ 16
            · rw [if_pos c7] at H
              have c7b0 := eq_true c7
              have c7b1 : decide ((wrap64 ((ji4) + 1)) ≤ 16) = true := decide_eq_true c7
              obtain ⟨y164, hy164⟩ : ∃ y_ : ByteArray, y_ = ((⟨#[48, 49, 50, 51, 52, 53, 54, 55, 56, 57, 97, 66, 99, 68, 101, 70]⟩ : ByteArray).extract ((ji4) : Int).toNat ((wrap64 ((ji4) + 1)) : Int).toNat) := ⟨_, rfl⟩
              replace H : (if y164.size + x5_1.size ≤ 9223372036854775807 then (cardexlaw02_EscapeNumbers.l0 k1 (wrap64 (Int.tmod (IntKind.u64.wrap (a0)) 1200000)) (wrap64 (Int.tmod (IntKind.u64.wrap (a1)) 3)) (y164 ++ x5_1) (wrap64 (Int.tdiv x6_1 16))) else (none)) = some r := by first | (rw [hy164]; with_reducible exact H) | (have H2_ := (Option.bind_some _ _).symm.trans H; rw [hy164]; with_reducible exact H2_) | (have H2_ := (Option.bind_some _ _).symm.trans H; with_reducible exact H2_) | with_reducible exact H | (rw [hy164]; exact H) | exact H
              have Ny164 := Aside0.mk hy164
              clear hy164
              have ey164 : ((⟨#[48, 49, 50, 51, 52, 53, 54, 55, 56, 57, 97, 66, 99, 68, 101, 70]⟩ : ByteArray).extract ((ji4) : Int).toNat ((wrap64 ((ji4) + 1)) : Int).toNat) = y164 := Ny164.out.symm
              by_cases c8 : y164.size + x5_1.size ≤ 9223372036854775807
              · rw [if_pos c8] at H
                have c8b0 := eq_true c8
                have c8b1 : decide (y164.size + x5_1.size ≤ 9223372036854775807) = true := decide_eq_true c8
                try have c8b2 : (9223372036854775807 < y164.size + x5_1.size) = False := eq_false (Nat.not_lt.2 c8)
                have H' := Aside0.mk H
                clear H
                go_wp2
                go_roundg k1
                case measure => have := HK1.out; omega
                case rel => exact ⟨(y164 ++ x5_1), (wrap64 (Int.tdiv x6_1 16)), (by first | rfl | (simp; done) | exact congrArg Value.bool (nemp _) | exact congrArg Value.bool (emp _) | (simp [*]; done)), (by first | rfl | (simp; done) | exact congrArg Value.bool (nemp _) | exact congrArg Value.bool (emp _) | (simp [*]; done)), H', ⟨by have := HK1.out; omega⟩, ⟨by repeat (first | (with_reducible first | exact HB.out | apply below_alloc | apply pw_below_drewN | apply below_drew1) | exact HB.out)⟩⟩
              · rw [if_neg c8] at H
                exact absurd H (by simp)
            · rw [if_neg c7] at H
              exact absurd H (by simp)
          · rw [if_neg c6] at H
            exact absurd H (by simp)
        · rw [if_neg c5] at H
          exact absurd H (by simp)
      · rw [if_neg c3] at H
        have c3b0 : decide (0 < x6_1) = false := decide_eq_false c3
        clear c3
        by_cases c9 : x5_1.toList = ([] : List UInt8)
        · rw [if_pos c9] at H
          have c9b0 : (x5_1.toList == ([] : List UInt8)) = true := beq_iff_eq.mpr c9
          have c9b1 : (x5_1.toList != ([] : List UInt8)) = false := bne_eq_false_iff_eq.mpr c9
          clear c9
          obtain ⟨ji10, hji10⟩ : ∃ j_ : Int, (Int.tmod x6_1 16) = j_ := ⟨_, rfl⟩
          replace H : (if 0 ≤ (ji10) then (if (ji10) ≤ (wrap64 ((ji10) + 1)) then (if (wrap64 ((ji10) + 1)) ≤ 16 then ((some ((⟨#[48, 49, 50, 51, 52, 53, 54, 55, 56, 57, 97, 66, 99, 68, 101, 70]⟩ : ByteArray).extract ((ji10) : Int).toNat ((wrap64 ((ji10) + 1)) : Int).toNat : ByteArray)).bind fun y165 => (if y165.size + x5_1.size ≤ 9223372036854775807 then (cardexlaw02_EscapeNumbers.l0 k1 (wrap64 (Int.tmod (IntKind.u64.wrap (a0)) 1200000)) (wrap64 (Int.tmod (IntKind.u64.wrap (a1)) 3)) (y165 ++ x5_1) (wrap64 (Int.tdiv x6_1 16))) else (none))) else (none)) else (none)) else (none)) = some r := by first | (rw [hji10] at H; exact H) | (simp only [hji10] at H ⊢; exact H)
          by_cases c11 : 0 ≤ (ji10)
          · rw [if_pos c11] at H
            have c11b0 := eq_true c11
            have c11b1 : decide (0 ≤ (ji10)) = true := decide_eq_true c11
            clear c11
            by_cases c12 : (ji10) ≤ (wrap64 ((ji10) + 1))
            · rw [if_pos c12] at H
              have c12b0 := eq_true c12
              have c12b1 : decide ((ji10) ≤ (wrap64 ((ji10) + 1))) = true := decide_eq_true c12
              by_cases c13 : (wrap64 ((ji10) + 1)) ≤ 16
              · rw [if_pos c13] at H
                have c13b0 := eq_true c13
                have c13b1 : decide ((wrap64 ((ji10) + 1)) ≤ 16) = true := decide_eq_true c13
                obtain ⟨y165, hy165⟩ : ∃ y_ : ByteArray, y_ = ((⟨#[48, 49, 50, 51, 52, 53, 54, 55, 56, 57, 97, 66, 99, 68, 101, 70]⟩ : ByteArray).extract ((ji10) : Int).toNat ((wrap64 ((ji10) + 1)) : Int).toNat) := ⟨_, rfl⟩
                replace H : (if y165.size + x5_1.size ≤ 9223372036854775807 then (cardexlaw02_EscapeNumbers.l0 k1 (wrap64 (Int.tmod (IntKind.u64.wrap (a0)) 1200000)) (wrap64 (Int.tmod (IntKind.u64.wrap (a1)) 3)) (y165 ++ x5_1) (wrap64 (Int.tdiv x6_1 16))) else (none)) = some r := by first | (rw [hy165]; with_reducible exact H) | (have H2_ := (Option.bind_some _ _).symm.trans H; rw [hy165]; with_reducible exact H2_) | (have H2_ := (Option.bind_some _ _).symm.trans H; with_reducible exact H2_) | with_reducible exact H | (rw [hy165]; exact H) | exact H
                have Ny165 := Aside0.mk hy165
                clear hy165
                have ey165 : ((⟨#[48, 49, 50, 51, 52, 53, 54, 55, 56, 57, 97, 66, 99, 68, 101, 70]⟩ : ByteArray).extract ((ji10) : Int).toNat ((wrap64 ((ji10) + 1)) : Int).toNat) = y165 := Ny165.out.symm
                by_cases c14 : y165.size + x5_1.size ≤ 9223372036854775807
                · rw [if_pos c14] at H
                  have c14b0 := eq_true c14
                  have c14b1 : decide (y165.size + x5_1.size ≤ 9223372036854775807) = true := decide_eq_true c14
                  try have c14b2 : (9223372036854775807 < y165.size + x5_1.size) = False := eq_false (Nat.not_lt.2 c14)
                  have H' := Aside0.mk H
                  clear H
                  go_wp2
                  go_roundg k1
                  case measure => have := HK1.out; omega
                  case rel => exact ⟨(y165 ++ x5_1), (wrap64 (Int.tdiv x6_1 16)), (by first | rfl | (simp; done) | exact congrArg Value.bool (nemp _) | exact congrArg Value.bool (emp _) | (simp [*]; done)), (by first | rfl | (simp; done) | exact congrArg Value.bool (nemp _) | exact congrArg Value.bool (emp _) | (simp [*]; done)), H', ⟨by have := HK1.out; omega⟩, ⟨by repeat (first | (with_reducible first | exact HB.out | apply below_alloc | apply pw_below_drewN | apply below_drew1) | exact HB.out)⟩⟩
                · rw [if_neg c14] at H
                  exact absurd H (by simp)
              · rw [if_neg c13] at H
                exact absurd H (by simp)
            · rw [if_neg c12] at H
              exact absurd H (by simp)
          · rw [if_neg c11] at H
            exact absurd H (by simp)
        · rw [if_neg c9] at H
          have c9b0 : (x5_1.toList == ([] : List UInt8)) = false := beq_eq_false_iff_ne.mpr c9
          have c9b1 : (x5_1.toList != ([] : List UInt8)) = true := bne_iff_ne.mpr c9
          replace H := Option.bind_eq_some_iff.mp H
          obtain ⟨t166, A150, H⟩ := H
          replace H : (cardexlaw02_EscapeNumbers.l1 k1 (wrap64 (Int.tmod (IntKind.u64.wrap (a0)) 1200000)) (wrap64 (Int.tmod (IntKind.u64.wrap (a1)) 3)) x5_1 t166 0) = some r := H
          have A15 := Aside0.mk A150
          clear A150
          have HC16 := Aside0.mk H
          clear H
          go_upto_block 2 with (first | ((with_reducible refine gate_callee (f := 18) rfl ?_); refine goesL_ (some 39) rfl rfl Tryd.func18 (by kernel_rfl) rfl #[.int .i64 (wrap64 (Int.tmod (IntKind.u64.wrap (a0)) 1200000))] rfl (by (try simp only [List.map_toArray, List.map_cons, List.map_nil]); first | done | rfl | (simp only [List.length_drop, List.length_take]; rfl)) ?_; (with_reducible refine (cardexhelp_Digits.calls k1 (wrap64 (Int.tmod (IntKind.u64.wrap (a0)) 1200000)) t166 _ A15.out).mono ?_); rintro e w17 ⟨rfl, hb⟩; refine ⟨_, rfl, ?_⟩; have n0_ := Aside0.mk (below_step (by repeat (first | (with_reducible first | exact HB.out | apply below_alloc | apply pw_below_drewN | apply below_drew1) | exact HB.out)) hb); clear HB; have HB := n0_; clear n0_; (try clear hb); (try clear hb2); (try clear hk); (try clear hi)))
          (try simp only [Act.put, List.setIfInBounds_toArray, List.set_cons_zero, List.set_cons_succ])
          go_cut [5, 7] (fun v5 v7 wc => ∃ (kq : Nat) (x5_15 : ByteArray) (x7_15 : ByteArray), v5 = .string x5_15 ∧ v7 = .string x7_15 ∧ Aside0 (cardexlaw02_EscapeNumbers.j2 kq (wrap64 (Int.tmod (IntKind.u64.wrap (a0)) 1200000)) x5_15 x7_15 = some r) ∧ Aside0 (kq ≤ k1) ∧ Aside0 (Below w.heap.size w wc))
          case first =>
            have H := HC16.out
            clear HC16
            have H' := Aside0.mk H
            clear H
            go_wp2
            go_loopg [5, 7, 8] k1 (fun kq v5 v7 v8 w' => ∃ (x5_2 : ByteArray) (x7_2 : ByteArray) (x8_2 : Int), v5 = .string x5_2 ∧ v7 = .string x7_2 ∧ v8 = .int .i64 x8_2 ∧ Aside0 (cardexlaw02_EscapeNumbers.l1 kq (wrap64 (Int.tmod (IntKind.u64.wrap (a0)) 1200000)) (wrap64 (Int.tmod (IntKind.u64.wrap (a1)) 3)) x5_2 x7_2 x8_2 = some r) ∧ Aside0 (kq ≤ k1) ∧ Aside0 (Below w.heap.size w w'))
            case atStart => exact ⟨(x5_1), (t166), (0), (by first | rfl | (simp; done) | exact congrArg Value.bool (nemp _) | exact congrArg Value.bool (emp _) | (simp [*]; done)), (by first | rfl | (simp; done) | exact congrArg Value.bool (nemp _) | exact congrArg Value.bool (emp _) | (simp [*]; done)), (by first | rfl | (simp; done) | exact congrArg Value.bool (nemp _) | exact congrArg Value.bool (emp _) | (simp [*]; done)), H', ⟨Nat.le_refl _⟩, ⟨by repeat (first | (with_reducible first | exact HB.out | apply below_alloc | apply pw_below_drewN | apply below_drew1) | exact HB.out)⟩⟩
            case round =>
              clear H'
              try clear c1
              try clear p2
              try clear c3
              try clear c3b0
              try clear c5
              try clear c5b0
              try clear c5b1
              try clear c6
              try clear c6b0
              try clear c6b1
              try clear p6
              try clear c7
              try clear c7b0
              try clear c7b1
              try clear c8
              try clear c8b0
              try clear c8b1
              try clear c8b2
              try clear c9
              try clear c9b0
              try clear c9b1
              try clear c11
              try clear c11b0
              try clear c11b1
              try clear c12
              try clear c12b0
              try clear c12b1
              try clear c13
              try clear c13b0
              try clear c13b1
              try clear c14
              try clear c14b0
              try clear c14b1
              try clear c14b2
              try clear p2
              obtain ⟨x5_2, x7_2, x8_2, rfl, rfl, rfl, HA, HK2, HB⟩ := hrel
              cases gk with
              | zero => exact absurd HA.out (by simp [cardexlaw02_EscapeNumbers.l1])
              | succ k2 =>
                have H := HA.out
                clear HA
                simp only [cardexlaw02_EscapeNumbers.l1] at H
                by_cases c18 : x8_2 < (wrap64 (Int.tmod (IntKind.u64.wrap (a1)) 3))
                · rw [if_pos c18] at H
                  have c18b0 : decide (x8_2 < (wrap64 (Int.tmod (IntKind.u64.wrap (a1)) 3))) = true := decide_eq_true c18
                  clear c18
                  (first | rw [c18b0] | (simp only [i64_w, i32_w]; rw [c18b0]) | skip)
                  by_cases c19 : (x7_2.size : Int) < 7
                  · rw [if_pos c19] at H
                    have c19b0 : decide ((x7_2.size : Int) < 7) = true := decide_eq_true c19
                    have c19b1 : decide (x7_2.size < 7) = true := decide_eq_true (by omega)
                    clear c19
                    by_cases c20 : (x5_2.size : Int) < 6
                    · rw [if_pos c20] at H
                      have c20b0 : decide ((x5_2.size : Int) < 6) = true := decide_eq_true c20
                      have c20b1 : decide (x5_2.size < 6) = true := decide_eq_true (by omega)
                      clear c20
                      by_cases c21 : 1 + x7_2.size ≤ 9223372036854775807
                      · rw [if_pos c21] at H
                        have c21b0 := eq_true c21
                        have c21b1 : decide (1 + x7_2.size ≤ 9223372036854775807) = true := decide_eq_true c21
                        try have c21b2 : (9223372036854775807 < 1 + x7_2.size) = False := eq_false (Nat.not_lt.2 c21)
                        by_cases c22 : 1 + x5_2.size ≤ 9223372036854775807
                        · rw [if_pos c22] at H
                          have c22b0 := eq_true c22
                          have c22b1 : decide (1 + x5_2.size ≤ 9223372036854775807) = true := decide_eq_true c22
                          try have c22b2 : (9223372036854775807 < 1 + x5_2.size) = False := eq_false (Nat.not_lt.2 c22)
                          have H' := Aside0.mk H
                          clear H
                          go_wp2
                          go_roundg k2
                          case measure => have := HK1.out; have := HK2.out; omega
                          case rel => exact ⟨((⟨#[48]⟩ : ByteArray) ++ x5_2), ((⟨#[48]⟩ : ByteArray) ++ x7_2), (wrap64 (x8_2 + 1)), (by first | rfl | (simp; done) | exact congrArg Value.bool (nemp _) | exact congrArg Value.bool (emp _) | (simp [*]; done)), (by first | rfl | (simp; done) | exact congrArg Value.bool (nemp _) | exact congrArg Value.bool (emp _) | (simp [*]; done)), (by first | rfl | (simp; done) | exact congrArg Value.bool (nemp _) | exact congrArg Value.bool (emp _) | (simp [*]; done)), H', ⟨by have := HK1.out; have := HK2.out; omega⟩, ⟨by repeat (first | (with_reducible first | exact HB.out | apply below_alloc | apply pw_below_drewN | apply below_drew1) | exact HB.out)⟩⟩
                        · rw [if_neg c22] at H
                          exact absurd H (by simp)
                      · rw [if_neg c21] at H
                        exact absurd H (by simp)
                    · rw [if_neg c20] at H
                      have c20b0 : decide ((x5_2.size : Int) < 6) = false := decide_eq_false c20
                      have c20b1 : decide (x5_2.size < 6) = false := decide_eq_false (by omega)
                      clear c20
                      have H' := Aside0.mk H
                      clear H
                      go_wp2
                      go_meet
                      case rel => exact ⟨_, (x5_2), (x7_2), (by first | rfl | (simp; done) | exact congrArg Value.bool (nemp _) | exact congrArg Value.bool (emp _) | (simp [*]; done)), (by first | rfl | (simp; done) | exact congrArg Value.bool (nemp _) | exact congrArg Value.bool (emp _) | (simp [*]; done)), H', ⟨by have := HK1.out; have := HK2.out; first | omega | exact Nat.le_refl _⟩, ⟨by repeat (first | (with_reducible first | exact HB.out | apply below_alloc | apply pw_below_drewN | apply below_drew1) | exact HB.out)⟩⟩
                  · rw [if_neg c19] at H
                    have c19b0 : decide ((x7_2.size : Int) < 7) = false := decide_eq_false c19
                    have c19b1 : decide (x7_2.size < 7) = false := decide_eq_false (by omega)
                    clear c19
                    have H' := Aside0.mk H
                    clear H
                    go_wp2
                    go_meet
                    case rel => exact ⟨_, (x5_2), (x7_2), (by first | rfl | (simp; done) | exact congrArg Value.bool (nemp _) | exact congrArg Value.bool (emp _) | (simp [*]; done)), (by first | rfl | (simp; done) | exact congrArg Value.bool (nemp _) | exact congrArg Value.bool (emp _) | (simp [*]; done)), H', ⟨by have := HK1.out; have := HK2.out; first | omega | exact Nat.le_refl _⟩, ⟨by repeat (first | (with_reducible first | exact HB.out | apply below_alloc | apply pw_below_drewN | apply below_drew1) | exact HB.out)⟩⟩
                · rw [if_neg c18] at H
                  have c18b0 : decide (x8_2 < (wrap64 (Int.tmod (IntKind.u64.wrap (a1)) 3))) = false := decide_eq_false c18
                  clear c18
                  (first | rw [c18b0] | (simp only [i64_w, i32_w]; rw [c18b0]) | skip)
                  have H' := Aside0.mk H
                  clear H
                  go_wp2
                  go_meet
                  case rel => exact ⟨_, (x5_2), (x7_2), (by first | rfl | (simp; done) | exact congrArg Value.bool (nemp _) | exact congrArg Value.bool (emp _) | (simp [*]; done)), (by first | rfl | (simp; done) | exact congrArg Value.bool (nemp _) | exact congrArg Value.bool (emp _) | (simp [*]; done)), H', ⟨by have := HK1.out; have := HK2.out; first | omega | exact Nat.le_refl _⟩, ⟨by repeat (first | (with_reducible first | exact HB.out | apply below_alloc | apply pw_below_drewN | apply below_drew1) | exact HB.out)⟩⟩
          case rest =>
            clear HC16
            try clear c1
            try clear c2
            try clear p2
            try clear c3
            try clear c3b0
            try clear c5
            try clear c5b0
            try clear c5b1
            try clear c6
            try clear c6b0
            try clear c6b1
            try clear p6
            try clear c7
            try clear c7b0
            try clear c7b1
            try clear c8
            try clear c8b0
            try clear c8b1
            try clear c8b2
            try clear c9
            try clear c9b0
            try clear c9b1
            try clear c11
            try clear c11b0
            try clear c11b1
            try clear c12
            try clear c12b0
            try clear c12b1
            try clear c13
            try clear c13b0
            try clear c13b1
            try clear c14
            try clear c14b0
            try clear c14b1
            try clear c14b2
            try clear c18
            try clear c18b0
            try clear c19
            try clear c19b0
            try clear c19b1
            try clear c20
            try clear c20b0
            try clear c20b1
            try clear c21
            try clear c21b0
            try clear c21b1
            try clear c21b2
            try clear c22
            try clear c22b0
            try clear c22b1
            try clear c22b2
            try clear p2
            try clear p6
            obtain ⟨kq, x5_15, x7_15, rfl, rfl, HA, HJ15, HB⟩ := hcut
            cases kq with
            | zero => exact absurd HA.out (by simp [cardexlaw02_EscapeNumbers.j2])
            | succ kj15 =>
              have H := HA.out
              clear HA
              simp only [cardexlaw02_EscapeNumbers.j2] at H
              by_cases c23 : 3 + x7_15.size ≤ 9223372036854775807
              · rw [if_pos c23] at H
                have c23b0 := eq_true c23
                have c23b1 : decide (3 + x7_15.size ≤ 9223372036854775807) = true := decide_eq_true c23
                try have c23b2 : (9223372036854775807 < 3 + x7_15.size) = False := eq_false (Nat.not_lt.2 c23)
                by_cases c24 : ((⟨#[120, 38, 35]⟩ : ByteArray) ++ x7_15).size + 2 ≤ 9223372036854775807
                · rw [if_pos c24] at H
                  have c24b0 := eq_true c24
                  have c24b1 : decide (((⟨#[120, 38, 35]⟩ : ByteArray) ++ x7_15).size + 2 ≤ 9223372036854775807) = true := decide_eq_true c24
                  try have c24b2 : (9223372036854775807 < ((⟨#[120, 38, 35]⟩ : ByteArray) ++ x7_15).size + 2) = False := eq_false (Nat.not_lt.2 c24)
                  try have c24b3 : (9223372036854775807 < 3 + x7_15.size + 2) = False := eq_false (Nat.not_lt.2 (by have h_ := c24; simp only [ByteArray.size_append] at h_; exact h_))
                  replace H := Option.bind_eq_some_iff.mp H
                  obtain ⟨⟨t167, t168⟩, A250, H⟩ := H
                  replace H : (if 4 + x5_15.size ≤ 9223372036854775807 then (if ((⟨#[120, 38, 35, 120]⟩ : ByteArray) ++ x5_15).size + 2 ≤ 9223372036854775807 then ((escape_Back.f (((⟨#[120, 38, 35, 120]⟩ : ByteArray) ++ x5_15) ++ (⟨#[59, 121]⟩ : ByteArray))).bind fun bt169 => ((cardexref01_Char.f (wrap64 (Int.tmod (IntKind.u64.wrap (a0)) 1200000))).bind fun t171 => (if t171 = true then ((cardexlaw02_awake.f).bind fun t172 => (if t172 = true then (if t168 = 0 then (if bt169.2 = 0 then (if t167.toList = bt169.1.toList then (if 1 + (Utf8.encode (wrap32 ((wrap64 (Int.tmod (IntKind.u64.wrap (a0)) 1200000))))).size ≤ 9223372036854775807 then (if ((⟨#[120]⟩ : ByteArray) ++ (Utf8.encode (wrap32 ((wrap64 (Int.tmod (IntKind.u64.wrap (a0)) 1200000)))))).size + 1 ≤ 9223372036854775807 then (if t167.toList = (((⟨#[120]⟩ : ByteArray) ++ (Utf8.encode (wrap32 ((wrap64 (Int.tmod (IntKind.u64.wrap (a0)) 1200000)))))) ++ (⟨#[121]⟩ : ByteArray)).toList then (some true) else (some false)) else (none)) else (none)) else (some false)) else (some false)) else (some false)) else (some false))) else ((cardexlaw02_awake.f).bind fun t173 => (if t173 = true then (if t168 = 5 then (if bt169.2 = 5 then (some true) else (some false)) else (some false)) else (some false)))))) else (none)) else (none)) = some r := H
                  have A25 := Aside0.mk A250
                  clear A250
                  by_cases c26 : 4 + x5_15.size ≤ 9223372036854775807
                  · rw [if_pos c26] at H
                    have c26b0 := eq_true c26
                    have c26b1 : decide (4 + x5_15.size ≤ 9223372036854775807) = true := decide_eq_true c26
                    try have c26b2 : (9223372036854775807 < 4 + x5_15.size) = False := eq_false (Nat.not_lt.2 c26)
                    by_cases c27 : ((⟨#[120, 38, 35, 120]⟩ : ByteArray) ++ x5_15).size + 2 ≤ 9223372036854775807
                    · rw [if_pos c27] at H
                      have c27b0 := eq_true c27
                      have c27b1 : decide (((⟨#[120, 38, 35, 120]⟩ : ByteArray) ++ x5_15).size + 2 ≤ 9223372036854775807) = true := decide_eq_true c27
                      try have c27b2 : (9223372036854775807 < ((⟨#[120, 38, 35, 120]⟩ : ByteArray) ++ x5_15).size + 2) = False := eq_false (Nat.not_lt.2 c27)
                      try have c27b3 : (9223372036854775807 < 4 + x5_15.size + 2) = False := eq_false (Nat.not_lt.2 (by have h_ := c27; simp only [ByteArray.size_append] at h_; exact h_))
                      replace H := Option.bind_eq_some_iff.mp H
                      obtain ⟨⟨t169, t170⟩, A280, H⟩ := H
                      replace H : ((cardexref01_Char.f (wrap64 (Int.tmod (IntKind.u64.wrap (a0)) 1200000))).bind fun t171 => (if t171 = true then ((cardexlaw02_awake.f).bind fun t172 => (if t172 = true then (if t168 = 0 then (if t170 = 0 then (if t167.toList = t169.toList then (if 1 + (Utf8.encode (wrap32 ((wrap64 (Int.tmod (IntKind.u64.wrap (a0)) 1200000))))).size ≤ 9223372036854775807 then (if ((⟨#[120]⟩ : ByteArray) ++ (Utf8.encode (wrap32 ((wrap64 (Int.tmod (IntKind.u64.wrap (a0)) 1200000)))))).size + 1 ≤ 9223372036854775807 then (if t167.toList = (((⟨#[120]⟩ : ByteArray) ++ (Utf8.encode (wrap32 ((wrap64 (Int.tmod (IntKind.u64.wrap (a0)) 1200000)))))) ++ (⟨#[121]⟩ : ByteArray)).toList then (some true) else (some false)) else (none)) else (none)) else (some false)) else (some false)) else (some false)) else (some false))) else ((cardexlaw02_awake.f).bind fun t173 => (if t173 = true then (if t168 = 5 then (if t170 = 5 then (some true) else (some false)) else (some false)) else (some false))))) = some r := H
                      have A28 := Aside0.mk A280
                      clear A280
                      replace H := Option.bind_eq_some_iff.mp H
                      obtain ⟨t171, A290, H⟩ := H
                      replace H : (if t171 = true then ((cardexlaw02_awake.f).bind fun t172 => (if t172 = true then (if t168 = 0 then (if t170 = 0 then (if t167.toList = t169.toList then (if 1 + (Utf8.encode (wrap32 ((wrap64 (Int.tmod (IntKind.u64.wrap (a0)) 1200000))))).size ≤ 9223372036854775807 then (if ((⟨#[120]⟩ : ByteArray) ++ (Utf8.encode (wrap32 ((wrap64 (Int.tmod (IntKind.u64.wrap (a0)) 1200000)))))).size + 1 ≤ 9223372036854775807 then (if t167.toList = (((⟨#[120]⟩ : ByteArray) ++ (Utf8.encode (wrap32 ((wrap64 (Int.tmod (IntKind.u64.wrap (a0)) 1200000)))))) ++ (⟨#[121]⟩ : ByteArray)).toList then (some true) else (some false)) else (none)) else (none)) else (some false)) else (some false)) else (some false)) else (some false))) else ((cardexlaw02_awake.f).bind fun t173 => (if t173 = true then (if t168 = 5 then (if t170 = 5 then (some true) else (some false)) else (some false)) else (some false)))) = some r := H
                      have A29 := Aside0.mk A290
                      clear A290
                      by_cases c30 : t171 = true
                      · subst c30
                        have H1 : ((cardexlaw02_awake.f).bind fun t172 => (if t172 = true then (if t168 = 0 then (if t170 = 0 then (if t167.toList = t169.toList then (if 1 + (Utf8.encode (wrap32 ((wrap64 (Int.tmod (IntKind.u64.wrap (a0)) 1200000))))).size ≤ 9223372036854775807 then (if ((⟨#[120]⟩ : ByteArray) ++ (Utf8.encode (wrap32 ((wrap64 (Int.tmod (IntKind.u64.wrap (a0)) 1200000)))))).size + 1 ≤ 9223372036854775807 then (if t167.toList = (((⟨#[120]⟩ : ByteArray) ++ (Utf8.encode (wrap32 ((wrap64 (Int.tmod (IntKind.u64.wrap (a0)) 1200000)))))) ++ (⟨#[121]⟩ : ByteArray)).toList then (some true) else (some false)) else (none)) else (none)) else (some false)) else (some false)) else (some false)) else (some false))) = some r := by rw [if_pos rfl] at H; exact H
                        clear H
                        have H := H1
                        clear H1
                        replace H := Option.bind_eq_some_iff.mp H
                        obtain ⟨t172, A310, H⟩ := H
                        replace H : (if t172 = true then (if t168 = 0 then (if t170 = 0 then (if t167.toList = t169.toList then (if 1 + (Utf8.encode (wrap32 ((wrap64 (Int.tmod (IntKind.u64.wrap (a0)) 1200000))))).size ≤ 9223372036854775807 then (if ((⟨#[120]⟩ : ByteArray) ++ (Utf8.encode (wrap32 ((wrap64 (Int.tmod (IntKind.u64.wrap (a0)) 1200000)))))).size + 1 ≤ 9223372036854775807 then (if t167.toList = (((⟨#[120]⟩ : ByteArray) ++ (Utf8.encode (wrap32 ((wrap64 (Int.tmod (IntKind.u64.wrap (a0)) 1200000)))))) ++ (⟨#[121]⟩ : ByteArray)).toList then (some true) else (some false)) else (none)) else (none)) else (some false)) else (some false)) else (some false)) else (some false)) = some r := H
                        have A31 := Aside0.mk A310
                        clear A310
                        by_cases c32 : t172 = true
                        · subst c32
                          have H1 : (if t168 = 0 then (if t170 = 0 then (if t167.toList = t169.toList then (if 1 + (Utf8.encode (wrap32 ((wrap64 (Int.tmod (IntKind.u64.wrap (a0)) 1200000))))).size ≤ 9223372036854775807 then (if ((⟨#[120]⟩ : ByteArray) ++ (Utf8.encode (wrap32 ((wrap64 (Int.tmod (IntKind.u64.wrap (a0)) 1200000)))))).size + 1 ≤ 9223372036854775807 then (if t167.toList = (((⟨#[120]⟩ : ByteArray) ++ (Utf8.encode (wrap32 ((wrap64 (Int.tmod (IntKind.u64.wrap (a0)) 1200000)))))) ++ (⟨#[121]⟩ : ByteArray)).toList then (some true) else (some false)) else (none)) else (none)) else (some false)) else (some false)) else (some false)) = some r := by rw [if_pos rfl] at H; exact H
                          clear H
                          have H := H1
                          clear H1
                          by_cases c33 : t168 = 0
                          · rw [if_pos c33] at H
                            have c33b0 : (t168 == 0) = true := beq_iff_eq.mpr c33
                            have c33b1 : (t168 != 0) = false := bne_eq_false_iff_eq.mpr c33
                            clear c33
                            by_cases c34 : t170 = 0
                            · rw [if_pos c34] at H
                              have c34b0 : (t170 == 0) = true := beq_iff_eq.mpr c34
                              have c34b1 : (t170 != 0) = false := bne_eq_false_iff_eq.mpr c34
                              clear c34
                              by_cases c35 : t167.toList = t169.toList
                              · rw [if_pos c35] at H
                                have c35b0 : (t167.toList == t169.toList) = true := beq_iff_eq.mpr c35
                                have c35b1 : (t167.toList != t169.toList) = false := bne_eq_false_iff_eq.mpr c35
                                clear c35
                                by_cases c36 : 1 + (Utf8.encode (wrap32 ((wrap64 (Int.tmod (IntKind.u64.wrap (a0)) 1200000))))).size ≤ 9223372036854775807
                                · rw [if_pos c36] at H
                                  have c36b0 := eq_true c36
                                  have c36b1 : decide (1 + (Utf8.encode (wrap32 ((wrap64 (Int.tmod (IntKind.u64.wrap (a0)) 1200000))))).size ≤ 9223372036854775807) = true := decide_eq_true c36
                                  try have c36b2 : (9223372036854775807 < 1 + (Utf8.encode (wrap32 ((wrap64 (Int.tmod (IntKind.u64.wrap (a0)) 1200000))))).size) = False := eq_false (Nat.not_lt.2 c36)
                                  by_cases c37 : ((⟨#[120]⟩ : ByteArray) ++ (Utf8.encode (wrap32 ((wrap64 (Int.tmod (IntKind.u64.wrap (a0)) 1200000)))))).size + 1 ≤ 9223372036854775807
                                  · rw [if_pos c37] at H
                                    have c37b0 := eq_true c37
                                    have c37b1 : decide (((⟨#[120]⟩ : ByteArray) ++ (Utf8.encode (wrap32 ((wrap64 (Int.tmod (IntKind.u64.wrap (a0)) 1200000)))))).size + 1 ≤ 9223372036854775807) = true := decide_eq_true c37
                                    try have c37b2 : (9223372036854775807 < ((⟨#[120]⟩ : ByteArray) ++ (Utf8.encode (wrap32 ((wrap64 (Int.tmod (IntKind.u64.wrap (a0)) 1200000)))))).size + 1) = False := eq_false (Nat.not_lt.2 c37)
                                    try have c37b3 : (9223372036854775807 < 1 + (Utf8.encode (wrap32 ((wrap64 (Int.tmod (IntKind.u64.wrap (a0)) 1200000))))).size + 1) = False := eq_false (Nat.not_lt.2 (by have h_ := c37; simp only [ByteArray.size_append] at h_; exact h_))
                                    by_cases c38 : t167.toList = (((⟨#[120]⟩ : ByteArray) ++ (Utf8.encode (wrap32 ((wrap64 (Int.tmod (IntKind.u64.wrap (a0)) 1200000)))))) ++ (⟨#[121]⟩ : ByteArray)).toList
                                    · rw [if_pos c38] at H
                                      have c38b0 : (t167.toList == (((⟨#[120]⟩ : ByteArray) ++ (Utf8.encode (wrap32 ((wrap64 (Int.tmod (IntKind.u64.wrap (a0)) 1200000)))))) ++ (⟨#[121]⟩ : ByteArray)).toList) = true := beq_iff_eq.mpr c38
                                      have c38b1 : (t167.toList != (((⟨#[120]⟩ : ByteArray) ++ (Utf8.encode (wrap32 ((wrap64 (Int.tmod (IntKind.u64.wrap (a0)) 1200000)))))) ++ (⟨#[121]⟩ : ByteArray)).toList) = false := bne_eq_false_iff_eq.mpr c38
                                      clear c38
                                      obtain rfl := Option.some.inj H
                                      go_wp2_with (first | ((with_reducible refine gate_callee (f := 13) rfl ?_); refine goesL_ (some 63) rfl rfl Tryd.func13 (by kernel_rfl) rfl #[.string (((⟨#[120, 38, 35]⟩ : ByteArray) ++ x7_15) ++ (⟨#[59, 121]⟩ : ByteArray))] rfl (by (try simp only [List.map_toArray, List.map_cons, List.map_nil]); first | done | rfl | (simp only [List.length_drop, List.length_take]; rfl)) ?_; (with_reducible refine (escape_Back.calls (((⟨#[120, 38, 35]⟩ : ByteArray) ++ x7_15) ++ (⟨#[59, 121]⟩ : ByteArray)) t167 t168 _ A25.out (tabs_b HT.out (by repeat (first | (with_reducible first | exact HB.out | apply below_alloc | apply pw_below_drewN | apply below_drew1) | exact HB.out)))).mono ?_); rintro e w39 ⟨rfl, hb⟩; refine ⟨_, rfl, ?_⟩; have n0_ := Aside0.mk (below_step (by repeat (first | (with_reducible first | exact HB.out | apply below_alloc | apply pw_below_drewN | apply below_drew1) | exact HB.out)) hb); clear HB; have HB := n0_; clear n0_; (try clear hb); (try clear hb2); (try clear hk); (try clear hi)) | ((with_reducible refine gate_callee (f := 13) rfl ?_); refine goesL_ (some 70) rfl rfl Tryd.func13 (by kernel_rfl) rfl #[.string (((⟨#[120, 38, 35, 120]⟩ : ByteArray) ++ x5_15) ++ (⟨#[59, 121]⟩ : ByteArray))] rfl (by (try simp only [List.map_toArray, List.map_cons, List.map_nil]); first | done | rfl | (simp only [List.length_drop, List.length_take]; rfl)) ?_; (with_reducible refine (escape_Back.calls (((⟨#[120, 38, 35, 120]⟩ : ByteArray) ++ x5_15) ++ (⟨#[59, 121]⟩ : ByteArray)) t169 t170 _ A28.out (tabs_b HT.out (by repeat (first | (with_reducible first | exact HB.out | apply below_alloc | apply pw_below_drewN | apply below_drew1) | exact HB.out)))).mono ?_); rintro e w40 ⟨rfl, hb⟩; refine ⟨_, rfl, ?_⟩; have n0_ := Aside0.mk (below_step (by repeat (first | (with_reducible first | exact HB.out | apply below_alloc | apply pw_below_drewN | apply below_drew1) | exact HB.out)) hb); clear HB; have HB := n0_; clear n0_; (try clear hb); (try clear hb2); (try clear hk); (try clear hi)) | ((with_reducible refine gate_callee (f := 19) rfl ?_); refine goesL_ (some 74) rfl rfl Tryd.func19 (by kernel_rfl) rfl #[.int .i64 (wrap64 (Int.tmod (IntKind.u64.wrap (a0)) 1200000))] rfl (by (try simp only [List.map_toArray, List.map_cons, List.map_nil]); first | done | rfl | (simp only [List.length_drop, List.length_take]; rfl)) ?_; (with_reducible refine (cardexref01_Char.calls (wrap64 (Int.tmod (IntKind.u64.wrap (a0)) 1200000)) true _ A29.out).mono ?_); rintro e w' ⟨rfl, ⟨nd, rfl⟩⟩; refine ⟨_, rfl, ?_⟩) | ((with_reducible refine gate_callee (f := 12) rfl ?_); refine goesL_ (some 85) rfl rfl Tryd.func12 (by kernel_rfl) rfl #[] rfl (by (try simp only [List.map_toArray, List.map_cons, List.map_nil]); first | done | rfl | (simp only [List.length_drop, List.length_take]; rfl)) ?_; (with_reducible refine (cardexlaw02_awake.calls  true _ A31.out (tabs_b HT.out (by repeat (first | (with_reducible first | exact HB.out | apply below_alloc | apply pw_below_drewN | apply below_drew1) | exact HB.out)))).mono ?_); rintro e w41 ⟨rfl, hb⟩; refine ⟨_, rfl, ?_⟩; have n0_ := Aside0.mk (below_step (by repeat (first | (with_reducible first | exact HB.out | apply below_alloc | apply pw_below_drewN | apply below_drew1) | exact HB.out)) hb); clear HB; have HB := n0_; clear n0_; (try clear hb); (try clear hb2); (try clear hk); (try clear hi)))
                                      go_ret
                                      exact ⟨by first | rfl | (simp [errW_none, errW_some] <;> rfl) | (simp [*, errW_none, errW_some] <;> rfl), by repeat (first | (with_reducible first | exact HB.out | apply below_alloc | apply pw_below_drewN | apply below_drew1) | exact HB.out)⟩
                                    · rw [if_neg c38] at H
                                      have c38b0 : (t167.toList == (((⟨#[120]⟩ : ByteArray) ++ (Utf8.encode (wrap32 ((wrap64 (Int.tmod (IntKind.u64.wrap (a0)) 1200000)))))) ++ (⟨#[121]⟩ : ByteArray)).toList) = false := beq_eq_false_iff_ne.mpr c38
                                      have c38b1 : (t167.toList != (((⟨#[120]⟩ : ByteArray) ++ (Utf8.encode (wrap32 ((wrap64 (Int.tmod (IntKind.u64.wrap (a0)) 1200000)))))) ++ (⟨#[121]⟩ : ByteArray)).toList) = true := bne_iff_ne.mpr c38
                                      exact absurd ((Option.some.inj H).trans HLAW.out) (by decide)
                                  · rw [if_neg c37] at H
                                    exact absurd H (by simp)
                                · rw [if_neg c36] at H
                                  exact absurd H (by simp)
                              · rw [if_neg c35] at H
                                have c35b0 : (t167.toList == t169.toList) = false := beq_eq_false_iff_ne.mpr c35
                                have c35b1 : (t167.toList != t169.toList) = true := bne_iff_ne.mpr c35
                                exact absurd ((Option.some.inj H).trans HLAW.out) (by decide)
                            · rw [if_neg c34] at H
                              have c34b0 : (t170 == 0) = false := beq_eq_false_iff_ne.mpr c34
                              have c34b1 : (t170 != 0) = true := bne_iff_ne.mpr c34
                              exact absurd ((Option.some.inj H).trans HLAW.out) (by decide)
                          · rw [if_neg c33] at H
                            have c33b0 : (t168 == 0) = false := beq_eq_false_iff_ne.mpr c33
                            have c33b1 : (t168 != 0) = true := bne_iff_ne.mpr c33
                            exact absurd ((Option.some.inj H).trans HLAW.out) (by decide)
                        · replace c32 := Bool.eq_false_iff.mpr c32
                          subst c32
                          have H1 : (some false) = some r := by rw [if_neg (show ¬ (false = true) by decide)] at H; exact H
                          clear H
                          have H := H1
                          clear H1
                          exact absurd ((Option.some.inj H).trans HLAW.out) (by decide)
                      · replace c30 := Bool.eq_false_iff.mpr c30
                        subst c30
                        have H1 : ((cardexlaw02_awake.f).bind fun t173 => (if t173 = true then (if t168 = 5 then (if t170 = 5 then (some true) else (some false)) else (some false)) else (some false))) = some r := by rw [if_neg (show ¬ (false = true) by decide)] at H; exact H
                        clear H
                        have H := H1
                        clear H1
                        replace H := Option.bind_eq_some_iff.mp H
                        obtain ⟨t173, A420, H⟩ := H
                        replace H : (if t173 = true then (if t168 = 5 then (if t170 = 5 then (some true) else (some false)) else (some false)) else (some false)) = some r := H
                        have A42 := Aside0.mk A420
                        clear A420
                        by_cases c43 : t173 = true
                        · subst c43
                          have H1 : (if t168 = 5 then (if t170 = 5 then (some true) else (some false)) else (some false)) = some r := by rw [if_pos rfl] at H; exact H
                          clear H
                          have H := H1
                          clear H1
                          by_cases c44 : t168 = 5
                          · rw [if_pos c44] at H
                            have c44b0 : (t168 == 5) = true := beq_iff_eq.mpr c44
                            have c44b1 : (t168 != 5) = false := bne_eq_false_iff_eq.mpr c44
                            clear c44
                            by_cases c45 : t170 = 5
                            · rw [if_pos c45] at H
                              have c45b0 : (t170 == 5) = true := beq_iff_eq.mpr c45
                              have c45b1 : (t170 != 5) = false := bne_eq_false_iff_eq.mpr c45
                              clear c45
                              obtain rfl := Option.some.inj H
                              go_wp2_with (first | ((with_reducible refine gate_callee (f := 13) rfl ?_); refine goesL_ (some 63) rfl rfl Tryd.func13 (by kernel_rfl) rfl #[.string (((⟨#[120, 38, 35]⟩ : ByteArray) ++ x7_15) ++ (⟨#[59, 121]⟩ : ByteArray))] rfl (by (try simp only [List.map_toArray, List.map_cons, List.map_nil]); first | done | rfl | (simp only [List.length_drop, List.length_take]; rfl)) ?_; (with_reducible refine (escape_Back.calls (((⟨#[120, 38, 35]⟩ : ByteArray) ++ x7_15) ++ (⟨#[59, 121]⟩ : ByteArray)) t167 t168 _ A25.out (tabs_b HT.out (by repeat (first | (with_reducible first | exact HB.out | apply below_alloc | apply pw_below_drewN | apply below_drew1) | exact HB.out)))).mono ?_); rintro e w46 ⟨rfl, hb⟩; refine ⟨_, rfl, ?_⟩; have n0_ := Aside0.mk (below_step (by repeat (first | (with_reducible first | exact HB.out | apply below_alloc | apply pw_below_drewN | apply below_drew1) | exact HB.out)) hb); clear HB; have HB := n0_; clear n0_; (try clear hb); (try clear hb2); (try clear hk); (try clear hi)) | ((with_reducible refine gate_callee (f := 13) rfl ?_); refine goesL_ (some 70) rfl rfl Tryd.func13 (by kernel_rfl) rfl #[.string (((⟨#[120, 38, 35, 120]⟩ : ByteArray) ++ x5_15) ++ (⟨#[59, 121]⟩ : ByteArray))] rfl (by (try simp only [List.map_toArray, List.map_cons, List.map_nil]); first | done | rfl | (simp only [List.length_drop, List.length_take]; rfl)) ?_; (with_reducible refine (escape_Back.calls (((⟨#[120, 38, 35, 120]⟩ : ByteArray) ++ x5_15) ++ (⟨#[59, 121]⟩ : ByteArray)) t169 t170 _ A28.out (tabs_b HT.out (by repeat (first | (with_reducible first | exact HB.out | apply below_alloc | apply pw_below_drewN | apply below_drew1) | exact HB.out)))).mono ?_); rintro e w47 ⟨rfl, hb⟩; refine ⟨_, rfl, ?_⟩; have n0_ := Aside0.mk (below_step (by repeat (first | (with_reducible first | exact HB.out | apply below_alloc | apply pw_below_drewN | apply below_drew1) | exact HB.out)) hb); clear HB; have HB := n0_; clear n0_; (try clear hb); (try clear hb2); (try clear hk); (try clear hi)) | ((with_reducible refine gate_callee (f := 19) rfl ?_); refine goesL_ (some 74) rfl rfl Tryd.func19 (by kernel_rfl) rfl #[.int .i64 (wrap64 (Int.tmod (IntKind.u64.wrap (a0)) 1200000))] rfl (by (try simp only [List.map_toArray, List.map_cons, List.map_nil]); first | done | rfl | (simp only [List.length_drop, List.length_take]; rfl)) ?_; (with_reducible refine (cardexref01_Char.calls (wrap64 (Int.tmod (IntKind.u64.wrap (a0)) 1200000)) false _ A29.out).mono ?_); rintro e w' ⟨rfl, ⟨nd, rfl⟩⟩; refine ⟨_, rfl, ?_⟩) | ((with_reducible refine gate_callee (f := 12) rfl ?_); refine goesL_ (some 76) rfl rfl Tryd.func12 (by kernel_rfl) rfl #[] rfl (by (try simp only [List.map_toArray, List.map_cons, List.map_nil]); first | done | rfl | (simp only [List.length_drop, List.length_take]; rfl)) ?_; (with_reducible refine (cardexlaw02_awake.calls  true _ A42.out (tabs_b HT.out (by repeat (first | (with_reducible first | exact HB.out | apply below_alloc | apply pw_below_drewN | apply below_drew1) | exact HB.out)))).mono ?_); rintro e w48 ⟨rfl, hb⟩; refine ⟨_, rfl, ?_⟩; have n0_ := Aside0.mk (below_step (by repeat (first | (with_reducible first | exact HB.out | apply below_alloc | apply pw_below_drewN | apply below_drew1) | exact HB.out)) hb); clear HB; have HB := n0_; clear n0_; (try clear hb); (try clear hb2); (try clear hk); (try clear hi)))
                              go_ret
                              exact ⟨by first | rfl | (simp [errW_none, errW_some] <;> rfl) | (simp [*, errW_none, errW_some] <;> rfl), by repeat (first | (with_reducible first | exact HB.out | apply below_alloc | apply pw_below_drewN | apply below_drew1) | exact HB.out)⟩
                            · rw [if_neg c45] at H
                              have c45b0 : (t170 == 5) = false := beq_eq_false_iff_ne.mpr c45
                              have c45b1 : (t170 != 5) = true := bne_iff_ne.mpr c45
                              exact absurd ((Option.some.inj H).trans HLAW.out) (by decide)
                          · rw [if_neg c44] at H
                            have c44b0 : (t168 == 5) = false := beq_eq_false_iff_ne.mpr c44
                            have c44b1 : (t168 != 5) = true := bne_iff_ne.mpr c44
                            exact absurd ((Option.some.inj H).trans HLAW.out) (by decide)
                        · replace c43 := Bool.eq_false_iff.mpr c43
                          subst c43
                          have H1 : (some false) = some r := by rw [if_neg (show ¬ (false = true) by decide)] at H; exact H
                          clear H
                          have H := H1
                          clear H1
                          exact absurd ((Option.some.inj H).trans HLAW.out) (by decide)
                    · rw [if_neg c27] at H
                      exact absurd H (by simp)
                  · rw [if_neg c26] at H
                    exact absurd H (by simp)
                · rw [if_neg c24] at H
                  exact absurd H (by simp)
              · rw [if_neg c23] at H
                exact absurd H (by simp)

end Go.Proofs.YtjijbncheikagaaDoor.Q
