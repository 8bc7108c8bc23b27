-- Written by hookprint.py (wip/) of this session: the kit's print with hand-proved functions beside it. Not trusted: Lean checks it.
import Derived.Test.YtjijbncheikagaaDoorQ0
import Derived.Test.YtjijbncheikagaaDoorQ3
import Derived.Test.YtjijbncheikagaaDoorQ4
namespace Go.Proofs.YtjijbncheikagaaDoor.Q
open Go.RowKit Go.Lib Go.Proofs.YtjijbncheikagaaDoorX Go.Proofs.YtjijbncheikagaaDoorW.PrintWords Go.Proofs.YtjijbncheikagaaDoorW.PrintLast Go.Proofs.YtjijbncheikagaaDoorW.PrintMore
attribute [local go_sem] max2_int min2_int max_two min_two max_three min_three max_four min_four   -- for this text's walks alone
set_option linter.unusedVariables false
set_option linter.unusedSimpArgs false

/-! ### cardexref01_Valid: function 17 -/
def cardexref01_Valid.l0 : Nat → ByteArray → Int → Option (Bool)
  | 0, _, _ => none
  | k + 1, x0, x3 => if x3 < (x0.size : Int) then ((cardexref01_Next.f k x0 x3).bind fun bt160 => (if bt160.2 = 0 then (some false) else (cardexref01_Valid.l0 k x0 (wrap64 (x3 + bt160.2))))) else (some true)
def cardexref01_Valid.f (k : Nat) (a0 : ByteArray) : Option (Bool) := cardexref01_Valid.l0 k a0 0
theorem cardexref01_Valid.mono_l : ∀ k, (∀ y0 y1, LeO (cardexref01_Valid.l0 k y0 y1) (cardexref01_Valid.l0 (k + 1) y0 y1))
  | 0 => fun _ _ r h => by simp [cardexref01_Valid.l0] at h
  | k + 1 => by
    have ih0 := cardexref01_Valid.mono_l k
    · intro y0 y1
      unfold cardexref01_Valid.l0
      repeat' first
      | (with_reducible exact ih0 _ _)
      | (with_reducible exact cardexref01_Next.mono _ _ _)
      | (with_reducible exact LeO.refl _)
      | (with_reducible exact LeO.none _)
      | (with_reducible refine LeO.ite ?_ ?_)
      | (with_reducible refine LeO.bind ?_ (fun _ => ?_))
      | exact ih0 _ _
      | exact cardexref01_Next.mono _ _ _
      | exact LeO.none _
      | refine LeO.ite ?_ ?_
      | refine LeO.bind ?_ (fun _ => ?_)
theorem cardexref01_Valid.mono : ∀ a0 k, LeO (cardexref01_Valid.f k a0) (cardexref01_Valid.f (k + 1) a0) := by
  intro a0 k
  have ih0 := cardexref01_Valid.mono_l k
  unfold cardexref01_Valid.f
  repeat' first
      | (with_reducible exact ih0 _ _)
      | (with_reducible exact cardexref01_Next.mono _ _ _)
      | (with_reducible exact LeO.refl _)
      | (with_reducible exact LeO.none _)
      | (with_reducible refine LeO.ite ?_ ?_)
      | (with_reducible refine LeO.bind ?_ (fun _ => ?_))
      | exact ih0 _ _
      | exact cardexref01_Next.mono _ _ _
      | exact LeO.none _
      | refine LeO.ite ?_ ?_
      | refine LeO.bind ?_ (fun _ => ?_)
set_option maxHeartbeats 8000000 in
set_option maxRecDepth 100000 in
theorem cardexref01_Valid.calls (k : Nat) (a0 : ByteArray) (r : Bool) (w : World) (h : cardexref01_Valid.f k a0 = some r) :
    Calls Tryd.prog 17 #[.string a0] w fun e w' => e = .returned (.bool r) ∧ Drawn0 w w' := by
  have H : (cardexref01_Valid.l0 k a0 0) = some r := h
  clear h
  have H' := Aside0.mk H
  clear H
  go_enter Tryd.func17, Tryd.ntmps17
  go_wp2
  go_loopg [3] k (fun kq v3 w' => ∃ (x3_1 : Int), v3 = .int .i64 x3_1 ∧ Aside0 (cardexref01_Valid.l0 kq a0 x3_1 = some r) ∧ Aside0 (kq ≤ k) ∧ Drawn0 w w')
  case atStart => exact ⟨(0), (by first | rfl | (simp; done) | exact congrArg Value.bool (nemp _) | exact congrArg Value.bool (emp _) | (simp [*]; done)), H', ⟨Nat.le_refl _⟩, by repeat (first | exact Drawn0.refl _ | apply Drawn0.step)⟩
  case round =>
    clear H'
    try clear c1
    obtain ⟨x3_1, rfl, HA, HK1, ⟨m1, rfl⟩⟩ := hrel
    cases gk with
    | zero => exact absurd HA.out (by simp [cardexref01_Valid.l0])
    | succ k1 =>
      have H := HA.out
      clear HA
      simp only [cardexref01_Valid.l0] at H
      by_cases c2 : x3_1 < (a0.size : Int)
      · rw [if_pos c2] at H
        have c2b0 : decide (x3_1 < (a0.size : Int)) = true := decide_eq_true c2
        clear c2
        replace H := Option.bind_eq_some_iff.mp H
        obtain ⟨⟨t160, t161⟩, A30, H⟩ := H
        replace H : (if t161 = 0 then (some false) else (cardexref01_Valid.l0 k1 a0 (wrap64 (x3_1 + t161)))) = some r := H
        have A3 := Aside0.mk A30
        clear A30
        by_cases c4 : t161 = 0
        · rw [if_pos c4] at H
          have c4b0 : (t161 == 0) = true := beq_iff_eq.mpr c4
          have c4b1 : (t161 != 0) = false := bne_eq_false_iff_eq.mpr c4
          clear c4
          obtain rfl := Option.some.inj H
          go_wp2_with (first | ((with_reducible refine gate_callee (f := 33) rfl ?_); refine goesL_ (some 13) rfl rfl Tryd.func33 (by kernel_rfl) rfl #[.string a0, .int .i64 x3_1] rfl (by (try simp only [List.map_toArray, List.map_cons, List.map_nil]); first | done | rfl | (simp only [List.length_drop, List.length_take]; rfl)) ?_; (with_reducible refine (cardexref01_Next.calls k1 a0 x3_1 t160 t161 _ A3.out).mono ?_); rintro e w' ⟨rfl, ⟨nd, rfl⟩⟩; refine ⟨_, rfl, ?_⟩))
          go_ret
          exact ⟨by first | rfl | (simp; done) | exact congrArg Value.bool (nemp _) | exact congrArg Value.bool (emp _) | (simp [*]; done), by repeat (first | exact Drawn0.refl _ | apply Drawn0.step)⟩
        · rw [if_neg c4] at H
          have c4b0 : (t161 == 0) = false := beq_eq_false_iff_ne.mpr c4
          have c4b1 : (t161 != 0) = true := bne_iff_ne.mpr c4
          have H' := Aside0.mk H
          clear H
          go_wp2_with (first | ((with_reducible refine gate_callee (f := 33) rfl ?_); refine goesL_ (some 13) rfl rfl Tryd.func33 (by kernel_rfl) rfl #[.string a0, .int .i64 x3_1] rfl (by (try simp only [List.map_toArray, List.map_cons, List.map_nil]); first | done | rfl | (simp only [List.length_drop, List.length_take]; rfl)) ?_; (with_reducible refine (cardexref01_Next.calls k1 a0 x3_1 t160 t161 _ A3.out).mono ?_); rintro e w' ⟨rfl, ⟨nd, rfl⟩⟩; refine ⟨_, rfl, ?_⟩))
          go_roundg k1
          case measure => have := HK1.out; omega
          case rel => exact ⟨(wrap64 (x3_1 + t161)), (by first | rfl | (simp; done) | exact congrArg Value.bool (nemp _) | exact congrArg Value.bool (emp _) | (simp [*]; done)), H', ⟨by have := HK1.out; omega⟩, by repeat (first | exact Drawn0.refl _ | apply Drawn0.step)⟩
      · rw [if_neg c2] at H
        have c2b0 : decide (x3_1 < (a0.size : Int)) = false := decide_eq_false c2
        clear c2
        obtain rfl := Option.some.inj H
        go_wp2
        go_ret
        exact ⟨by first | rfl | (simp; done) | exact congrArg Value.bool (nemp _) | exact congrArg Value.bool (emp _) | (simp [*]; done), by repeat (first | exact Drawn0.refl _ | apply Drawn0.step)⟩

/-! ### cardexlaw02_EscapeBack: function 4 -/
mutual
def cardexlaw02_EscapeBack.j0 : Nat → ByteArray → Bool → Option (Bool)
  | 0, _, _ => none
  | k + 1, x0, x14 => if x14 = true then ((cardexlaw02_awake.f).bind fun t163 => (if t163 = true then (some true) else (some false))) else ((escape_Text.f x0).bind fun t164 => ((escape_Back.f t164).bind fun bt165 => (cardexlaw02_EscapeBack.l0 k x0 t164 bt165.1 bt165.2 0)))
def cardexlaw02_EscapeBack.l0 : Nat → ByteArray → ByteArray → ByteArray → Int → Int → Option (Bool)
  | 0, _, _, _, _, _ => none
  | k + 1, x0, x3, x4, x5, x6 => if x6 < (x3.size : Int) then (if 0 ≤ x6 then (if (bt x3 x6) = 60 then (some false) else (if (bt x3 x6) = 62 then (some false) else (if (bt x3 x6) = 34 then (some false) else (if (bt x3 x6) = 39 then (some false) else (if (bt x3 x6) < 32 then (some false) else (cardexlaw02_EscapeBack.l0 k x0 x3 x4 x5 (wrap64 (x6 + 1)))))))) else (none)) else ((cardexlaw02_awake.f).bind fun t167 => (if t167 = true then (if x5 = 0 then (if x4.toList = x0.toList then (some true) else (some false)) else (some false)) else (some false)))
end
def cardexlaw02_EscapeBack.f (k : Nat) (a0 : ByteArray) : Option (Bool) := if (a0.size : Int) > 500 then (cardexlaw02_EscapeBack.j0 k a0 true) else ((cardexref01_Valid.f k a0).bind fun t162 => (cardexlaw02_EscapeBack.j0 k a0 (!t162)))
theorem cardexlaw02_EscapeBack.mono_l : ∀ k, (∀ y0 y1, LeO (cardexlaw02_EscapeBack.j0 k y0 y1) (cardexlaw02_EscapeBack.j0 (k + 1) y0 y1)) ∧ (∀ y0 y1 y2 y3 y4, LeO (cardexlaw02_EscapeBack.l0 k y0 y1 y2 y3 y4) (cardexlaw02_EscapeBack.l0 (k + 1) y0 y1 y2 y3 y4))
  | 0 => ⟨fun _ _ r h => by simp [cardexlaw02_EscapeBack.j0] at h, fun _ _ _ _ _ r h => by simp [cardexlaw02_EscapeBack.l0] at h⟩
  | k + 1 => by
    obtain ⟨ih0, ih1⟩ := cardexlaw02_EscapeBack.mono_l k
    refine ⟨?_, ?_⟩
    · intro y0 y1
      unfold cardexlaw02_EscapeBack.j0
      repeat' first
      | (with_reducible exact ih0 _ _)
      | (with_reducible exact ih1 _ _ _ _ _)
      | (with_reducible exact cardexref01_Valid.mono _ _)
      | (with_reducible exact LeO.refl _)
      | (with_reducible exact LeO.none _)
      | (with_reducible refine LeO.ite ?_ ?_)
      | (with_reducible refine LeO.bind ?_ (fun _ => ?_))
      | exact ih0 _ _
      | exact ih1 _ _ _ _ _
      | exact cardexref01_Valid.mono _ _
      | exact LeO.none _
      | refine LeO.ite ?_ ?_
      | refine LeO.bind ?_ (fun _ => ?_)
    · intro y0 y1 y2 y3 y4
      unfold cardexlaw02_EscapeBack.l0
      repeat' first
      | (with_reducible exact ih0 _ _)
      | (with_reducible exact ih1 _ _ _ _ _)
      | (with_reducible exact cardexref01_Valid.mono _ _)
      | (with_reducible exact LeO.refl _)
      | (with_reducible exact LeO.none _)
      | (with_reducible refine LeO.ite ?_ ?_)
      | (with_reducible refine LeO.bind ?_ (fun _ => ?_))
      | exact ih0 _ _
      | exact ih1 _ _ _ _ _
      | exact cardexref01_Valid.mono _ _
      | exact LeO.none _
      | refine LeO.ite ?_ ?_
      | refine LeO.bind ?_ (fun _ => ?_)
theorem cardexlaw02_EscapeBack.mono : ∀ a0 k, LeO (cardexlaw02_EscapeBack.f k a0) (cardexlaw02_EscapeBack.f (k + 1) a0) := by
  intro a0 k
  obtain ⟨ih0, ih1⟩ := cardexlaw02_EscapeBack.mono_l k
  unfold cardexlaw02_EscapeBack.f
  repeat' first
      | (with_reducible exact ih0 _ _)
      | (with_reducible exact ih1 _ _ _ _ _)
      | (with_reducible exact cardexref01_Valid.mono _ _)
      | (with_reducible exact LeO.refl _)
      | (with_reducible exact LeO.none _)
      | (with_reducible refine LeO.ite ?_ ?_)
      | (with_reducible refine LeO.bind ?_ (fun _ => ?_))
      | exact ih0 _ _
      | exact ih1 _ _ _ _ _
      | exact cardexref01_Valid.mono _ _
      | exact LeO.none _
      | refine LeO.ite ?_ ?_
      | refine LeO.bind ?_ (fun _ => ?_)
set_option maxHeartbeats 8000000 in
set_option maxRecDepth 100000 in
theorem cardexlaw02_EscapeBack.calls (k : Nat) (a0 : ByteArray) (r : Bool) (w : World) (h : cardexlaw02_EscapeBack.f k a0 = some r) (hT : Tabs w) (hlaw : r = true) :
    Calls Tryd.prog 4 #[.string a0] w fun e w' => e = .returned (.bool r) ∧ Below w.heap.size w w' := by
  have HT := Aside0.mk hT
  clear hT
  have HLAW := Aside0.mk hlaw
  clear hlaw
  have HB := Aside0.mk (Below.refl w.heap.size w)
  have H : (if (a0.size : Int) > 500 then (cardexlaw02_EscapeBack.j0 k a0 true) else ((cardexref01_Valid.f k a0).bind fun t162 => (cardexlaw02_EscapeBack.j0 k a0 (!t162)))) = some r := h
  clear h
  have HC2 := Aside0.mk H
  clear H
  go_enter Tryd.func4, Tryd.ntmps4
  go_upto_region 1 with (fail)
  go_cut [14] (fun v14 wc => ∃ (kq : Nat) (x14_1 : Bool), v14 = .bool x14_1 ∧ Aside0 (cardexlaw02_EscapeBack.j0 kq a0 x14_1 = some r) ∧ Aside0 (kq ≤ k) ∧ Aside0 (Below w.heap.size w wc))
  case first =>
    have H := HC2.out
    clear HC2
    by_cases c3 : (a0.size : Int) > 500
    · rw [if_pos c3] at H
      have c3b0 : decide (500 < (a0.size : Int)) = true := decide_eq_true c3
      have c3b1 : decide (500 < a0.size) = true := decide_eq_true (by omega)
      clear c3
      (first | rw [c3b0] | (simp only [i64_w, i32_w]; rw [c3b0]) | skip)
      have H' := Aside0.mk H
      clear H
      go_wp2
      go_meet
      case rel => exact ⟨_, (true), (by first | rfl | (simp; done) | exact congrArg Value.bool (nemp _) | exact congrArg Value.bool (emp _) | (simp [*]; done)), H', ⟨by first | omega | exact Nat.le_refl _⟩, ⟨by repeat (first | (with_reducible first | exact HB.out | apply below_alloc | apply pw_below_drewN | apply below_drew1) | exact HB.out)⟩⟩
    · rw [if_neg c3] at H
      have c3b0 : decide (500 < (a0.size : Int)) = false := decide_eq_false c3
      have c3b1 : decide (500 < a0.size) = false := decide_eq_false (by omega)
      clear c3
      (first | rw [c3b0] | (simp only [i64_w, i32_w]; rw [c3b0]) | skip)
      replace H := Option.bind_eq_some_iff.mp H
      obtain ⟨t162, A40, H⟩ := H
      replace H : (cardexlaw02_EscapeBack.j0 k a0 (!t162)) = some r := H
      have A4 := Aside0.mk A40
      clear A40
      have H' := Aside0.mk H
      clear H
      go_wp2_with (first | (go_at_call 17; (with_reducible refine (cardexref01_Valid.calls k a0 t162 _ A4.out).mono ?_); rintro e w' ⟨rfl, ⟨nd, rfl⟩⟩))
      go_meet
      case rel => exact ⟨_, (!t162), (by first | rfl | (simp; done) | exact congrArg Value.bool (nemp _) | exact congrArg Value.bool (emp _) | (simp [*]; done)), H', ⟨by first | omega | exact Nat.le_refl _⟩, ⟨by repeat (first | (with_reducible first | exact HB.out | apply below_alloc | apply pw_below_drewN | apply below_drew1) | exact HB.out)⟩⟩
  case rest =>
    clear HC2
    try clear p2
    try clear c3
    try clear c3b0
    try clear c3b1
    try clear c4
    obtain ⟨kq, x14_1, rfl, HA, HJ1, HB⟩ := hcut
    cases kq with
    | zero => exact absurd HA.out (by simp [cardexlaw02_EscapeBack.j0])
    | succ kj1 =>
      have H := HA.out
      clear HA
      simp only [cardexlaw02_EscapeBack.j0] at H
      by_cases c5 : x14_1 = true
      · subst c5
        have H1 : ((cardexlaw02_awake.f).bind fun t163 => (if t163 = true then (some true) else (some false))) = some r := by rw [if_pos rfl] at H; exact H
        clear H
        have H := H1
        clear H1
        replace H := Option.bind_eq_some_iff.mp H
        obtain ⟨t163, A60, H⟩ := H
        replace H : (if t163 = true then (some true) else (some false)) = some r := H
        have A6 := Aside0.mk A60
        clear A60
        by_cases c7 : t163 = true
        · subst c7
          have H1 : (some true) = some r := by rw [if_pos rfl] at H; exact H
          clear H
          have H := H1
          clear H1
          obtain rfl := Option.some.inj H
          go_wp2_with (first | ((with_reducible refine gate_callee (f := 12) rfl ?_); refine goesL_ (some 15) rfl rfl Tryd.func12 (by kernel_rfl) rfl #[] rfl (by (try simp only [List.map_toArray, List.map_cons, List.map_nil]); first | done | rfl | (simp only [List.length_drop, List.length_take]; rfl)) ?_; (with_reducible refine (cardexlaw02_awake.calls  true _ A6.out (tabs_b HT.out (by repeat (first | (with_reducible first | exact HB.out | apply below_alloc | apply pw_below_drewN | apply below_drew1) | exact HB.out)))).mono ?_); rintro e w8 ⟨rfl, hb⟩; refine ⟨_, rfl, ?_⟩; have n0_ := Aside0.mk (below_step (by repeat (first | (with_reducible first | exact HB.out | apply below_alloc | apply pw_below_drewN | apply below_drew1) | exact HB.out)) hb); clear HB; have HB := n0_; clear n0_; (try clear hb); (try clear hb2); (try clear hk); (try clear hi)))
          go_ret
          exact ⟨by first | rfl | (simp [errW_none, errW_some] <;> rfl) | (simp [*, errW_none, errW_some] <;> rfl), by repeat (first | (with_reducible first | exact HB.out | apply below_alloc | apply pw_below_drewN | apply below_drew1) | exact HB.out)⟩
        · replace c7 := Bool.eq_false_iff.mpr c7
          subst c7
          have H1 : (some false) = some r := by rw [if_neg (show ¬ (false = true) by decide)] at H; exact H
          clear H
          have H := H1
          clear H1
          exact absurd ((Option.some.inj H).trans HLAW.out) (by decide)
      · replace c5 := Bool.eq_false_iff.mpr c5
        subst c5
        have H1 : ((escape_Text.f a0).bind fun t164 => ((escape_Back.f t164).bind fun bt165 => (cardexlaw02_EscapeBack.l0 kj1 a0 t164 bt165.1 bt165.2 0))) = some r := by rw [if_neg (show ¬ (false = true) by decide)] at H; exact H
        clear H
        have H := H1
        clear H1
        replace H := Option.bind_eq_some_iff.mp H
        obtain ⟨t164, A90, H⟩ := H
        replace H : ((escape_Back.f t164).bind fun bt165 => (cardexlaw02_EscapeBack.l0 kj1 a0 t164 bt165.1 bt165.2 0)) = some r := H
        have A9 := Aside0.mk A90
        clear A90
        replace H := Option.bind_eq_some_iff.mp H
        obtain ⟨⟨t165, t166⟩, A100, H⟩ := H
        replace H : (cardexlaw02_EscapeBack.l0 kj1 a0 t164 t165 t166 0) = some r := H
        have A10 := Aside0.mk A100
        clear A100
        have H' := Aside0.mk H
        clear H
        go_wp2_with (first | ((with_reducible refine gate_callee (f := 15) rfl ?_); refine goesL_ (some 17) rfl rfl Tryd.func15 (by kernel_rfl) rfl #[.string a0] rfl (by (try simp only [List.map_toArray, List.map_cons, List.map_nil]); first | done | rfl | (simp only [List.length_drop, List.length_take]; rfl)) ?_; (with_reducible refine (escape_Text.calls a0 t164 _ A9.out).mono ?_); rintro e w11 ⟨rfl, hb⟩; refine ⟨_, rfl, ?_⟩; have n0_ := Aside0.mk (below_step (by repeat (first | (with_reducible first | exact HB.out | apply below_alloc | apply pw_below_drewN | apply below_drew1) | exact HB.out)) hb); clear HB; have HB := n0_; clear n0_; (try clear hb); (try clear hb2); (try clear hk); (try clear hi)) | ((with_reducible refine gate_callee (f := 13) rfl ?_); refine goesL_ (some 20) rfl rfl Tryd.func13 (by kernel_rfl) rfl #[.string t164] rfl (by (try simp only [List.map_toArray, List.map_cons, List.map_nil]); first | done | rfl | (simp only [List.length_drop, List.length_take]; rfl)) ?_; (with_reducible refine (escape_Back.calls t164 t165 t166 _ A10.out (tabs_b HT.out (by repeat (first | (with_reducible first | exact HB.out | apply below_alloc | apply pw_below_drewN | apply below_drew1) | exact HB.out)))).mono ?_); rintro e w12 ⟨rfl, hb⟩; refine ⟨_, rfl, ?_⟩; have n0_ := Aside0.mk (below_step (by repeat (first | (with_reducible first | exact HB.out | apply below_alloc | apply pw_below_drewN | apply below_drew1) | exact HB.out)) hb); clear HB; have HB := n0_; clear n0_; (try clear hb); (try clear hb2); (try clear hk); (try clear hi)))
        go_loopg [6] kj1 (fun kq v6 w' => ∃ (x6_2 : Int), v6 = .int .i64 x6_2 ∧ Aside0 (cardexlaw02_EscapeBack.l0 kq a0 t164 t165 t166 x6_2 = some r) ∧ Aside0 (kq ≤ kj1) ∧ Aside0 (Below w.heap.size w w'))
        case atStart => exact ⟨(0), (by first | rfl | (simp; done) | exact congrArg Value.bool (nemp _) | exact congrArg Value.bool (emp _) | (simp [*]; done)), H', ⟨Nat.le_refl _⟩, ⟨by repeat (first | (with_reducible first | exact HB.out | apply below_alloc | apply pw_below_drewN | apply below_drew1) | exact HB.out)⟩⟩
        case round =>
          clear H'
          try clear c1
          try clear p2
          try clear c3
          try clear c3b0
          try clear c3b1
          try clear c4
          try clear c5
          try clear c7
          try clear c12
          try clear p2
          obtain ⟨x6_2, rfl, HA, HK2, HB⟩ := hrel
          cases gk with
          | zero => exact absurd HA.out (by simp [cardexlaw02_EscapeBack.l0])
          | succ k2 =>
            have H := HA.out
            clear HA
            simp only [cardexlaw02_EscapeBack.l0] at H
            by_cases c13 : x6_2 < (t164.size : Int)
            · rw [if_pos c13] at H
              have c13b0 : decide (x6_2 < (t164.size : Int)) = true := decide_eq_true c13
              clear c13
              by_cases c14 : 0 ≤ x6_2
              · rw [if_pos c14] at H
                have c14b0 : decide (0 ≤ x6_2) = true := decide_eq_true c14
                clear c14
                by_cases c16 : (bt t164 x6_2) = 60
                · rw [if_pos c16] at H
                  have c16b0 : ((bt t164 x6_2) == 60) = true := beq_iff_eq.mpr c16
                  have c16b1 : ((bt t164 x6_2) != 60) = false := bne_eq_false_iff_eq.mpr c16
                  clear c16
                  exact absurd ((Option.some.inj H).trans HLAW.out) (by decide)
                · rw [if_neg c16] at H
                  have c16b0 : ((bt t164 x6_2) == 60) = false := beq_eq_false_iff_ne.mpr c16
                  have c16b1 : ((bt t164 x6_2) != 60) = true := bne_iff_ne.mpr c16
                  by_cases c18 : (bt t164 x6_2) = 62
                  · rw [if_pos c18] at H
                    have c18b0 : ((bt t164 x6_2) == 62) = true := beq_iff_eq.mpr c18
                    have c18b1 : ((bt t164 x6_2) != 62) = false := bne_eq_false_iff_eq.mpr c18
                    clear c18
                    exact absurd ((Option.some.inj H).trans HLAW.out) (by decide)
                  · rw [if_neg c18] at H
                    have c18b0 : ((bt t164 x6_2) == 62) = false := beq_eq_false_iff_ne.mpr c18
                    have c18b1 : ((bt t164 x6_2) != 62) = true := bne_iff_ne.mpr c18
                    by_cases c20 : (bt t164 x6_2) = 34
                    · rw [if_pos c20] at H
                      have c20b0 : ((bt t164 x6_2) == 34) = true := beq_iff_eq.mpr c20
                      have c20b1 : ((bt t164 x6_2) != 34) = false := bne_eq_false_iff_eq.mpr c20
                      clear c20
                      exact absurd ((Option.some.inj H).trans HLAW.out) (by decide)
                    · rw [if_neg c20] at H
                      have c20b0 : ((bt t164 x6_2) == 34) = false := beq_eq_false_iff_ne.mpr c20
                      have c20b1 : ((bt t164 x6_2) != 34) = true := bne_iff_ne.mpr c20
                      by_cases c22 : (bt t164 x6_2) = 39
                      · rw [if_pos c22] at H
                        have c22b0 : ((bt t164 x6_2) == 39) = true := beq_iff_eq.mpr c22
                        have c22b1 : ((bt t164 x6_2) != 39) = false := bne_eq_false_iff_eq.mpr c22
                        clear c22
                        exact absurd ((Option.some.inj H).trans HLAW.out) (by decide)
                      · rw [if_neg c22] at H
                        have c22b0 : ((bt t164 x6_2) == 39) = false := beq_eq_false_iff_ne.mpr c22
                        have c22b1 : ((bt t164 x6_2) != 39) = true := bne_iff_ne.mpr c22
                        by_cases c24 : (bt t164 x6_2) < 32
                        · rw [if_pos c24] at H
                          have c24b0 : decide ((bt t164 x6_2) < 32) = true := decide_eq_true c24
                          clear c24
                          exact absurd ((Option.some.inj H).trans HLAW.out) (by decide)
                        · rw [if_neg c24] at H
                          have c24b0 : decide ((bt t164 x6_2) < 32) = false := decide_eq_false c24
                          clear c24
                          have H' := Aside0.mk H
                          clear H
                          have p15 : 0 ≤ (x6_2 : Int) := of_decide_eq_true (by first | (with_reducible assumption) | assumption)
                          have q15 : x6_2 < (t164.size : Int) := of_decide_eq_true (by first | (with_reducible assumption) | assumption)
                          have hx15 := bt_at t164 x6_2
                          replace p15 := eq_true p15
                          replace q15 := eq_true q15
                          have p17 : 0 ≤ (x6_2 : Int) := of_decide_eq_true (by first | (with_reducible assumption) | assumption)
                          have q17 : x6_2 < (t164.size : Int) := of_decide_eq_true (by first | (with_reducible assumption) | assumption)
                          have hx17 := bt_at t164 x6_2
                          replace p17 := eq_true p17
                          replace q17 := eq_true q17
                          have p19 : 0 ≤ (x6_2 : Int) := of_decide_eq_true (by first | (with_reducible assumption) | assumption)
                          have q19 : x6_2 < (t164.size : Int) := of_decide_eq_true (by first | (with_reducible assumption) | assumption)
                          have hx19 := bt_at t164 x6_2
                          replace p19 := eq_true p19
                          replace q19 := eq_true q19
                          have p21 : 0 ≤ (x6_2 : Int) := of_decide_eq_true (by first | (with_reducible assumption) | assumption)
                          have q21 : x6_2 < (t164.size : Int) := of_decide_eq_true (by first | (with_reducible assumption) | assumption)
                          have hx21 := bt_at t164 x6_2
                          replace p21 := eq_true p21
                          replace q21 := eq_true q21
                          have p23 : 0 ≤ (x6_2 : Int) := of_decide_eq_true (by first | (with_reducible assumption) | assumption)
                          have q23 : x6_2 < (t164.size : Int) := of_decide_eq_true (by first | (with_reducible assumption) | assumption)
                          have hx23 := bt_at t164 x6_2
                          replace p23 := eq_true p23
                          replace q23 := eq_true q23
                          go_wp2
                          go_roundg k2
                          case measure => have := HJ1.out; have := HK2.out; omega
                          case rel => exact ⟨(wrap64 (x6_2 + 1)), (by first | rfl | (simp; done) | exact congrArg Value.bool (nemp _) | exact congrArg Value.bool (emp _) | (simp [*]; done)), H', ⟨by have := HJ1.out; have := HK2.out; omega⟩, ⟨by repeat (first | (with_reducible first | exact HB.out | apply below_alloc | apply pw_below_drewN | apply below_drew1) | exact HB.out)⟩⟩
              · rw [if_neg c14] at H
                exact absurd H (by simp)
            · rw [if_neg c13] at H
              have c13b0 : decide (x6_2 < (t164.size : Int)) = false := decide_eq_false c13
              clear c13
              replace H := Option.bind_eq_some_iff.mp H
              obtain ⟨t167, A250, H⟩ := H
              replace H : (if t167 = true then (if t166 = 0 then (if t165.toList = a0.toList then (some true) else (some false)) else (some false)) else (some false)) = some r := H
              have A25 := Aside0.mk A250
              clear A250
              by_cases c26 : t167 = true
              · subst c26
                have H1 : (if t166 = 0 then (if t165.toList = a0.toList then (some true) else (some false)) else (some false)) = some r := by rw [if_pos rfl] at H; exact H
                clear H
                have H := H1
                clear H1
                by_cases c27 : t166 = 0
                · rw [if_pos c27] at H
                  have c27b0 : (t166 == 0) = true := beq_iff_eq.mpr c27
                  have c27b1 : (t166 != 0) = false := bne_eq_false_iff_eq.mpr c27
                  clear c27
                  by_cases c28 : t165.toList = a0.toList
                  · rw [if_pos c28] at H
                    have c28b0 : (t165.toList == a0.toList) = true := beq_iff_eq.mpr c28
                    have c28b1 : (t165.toList != a0.toList) = false := bne_eq_false_iff_eq.mpr c28
                    clear c28
                    obtain rfl := Option.some.inj H
                    go_wp2_with (first | ((with_reducible refine gate_callee (f := 12) rfl ?_); refine goesL_ (some 57) rfl rfl Tryd.func12 (by kernel_rfl) rfl #[] rfl (by (try simp only [List.map_toArray, List.map_cons, List.map_nil]); first | done | rfl | (simp only [List.length_drop, List.length_take]; rfl)) ?_; (with_reducible refine (cardexlaw02_awake.calls  true _ A25.out (tabs_b HT.out (by repeat (first | (with_reducible first | exact HB.out | apply below_alloc | apply pw_below_drewN | apply below_drew1) | exact HB.out)))).mono ?_); rintro e w29 ⟨rfl, hb⟩; refine ⟨_, rfl, ?_⟩; have n0_ := Aside0.mk (below_step (by repeat (first | (with_reducible first | exact HB.out | apply below_alloc | apply pw_below_drewN | apply below_drew1) | exact HB.out)) hb); clear HB; have HB := n0_; clear n0_; (try clear hb); (try clear hb2); (try clear hk); (try clear hi)))
                    go_ret
                    exact ⟨by first | rfl | (simp [errW_none, errW_some] <;> rfl) | (simp [*, errW_none, errW_some] <;> rfl), by repeat (first | (with_reducible first | exact HB.out | apply below_alloc | apply pw_below_drewN | apply below_drew1) | exact HB.out)⟩
                  · rw [if_neg c28] at H
                    have c28b0 : (t165.toList == a0.toList) = false := beq_eq_false_iff_ne.mpr c28
                    have c28b1 : (t165.toList != a0.toList) = true := bne_iff_ne.mpr c28
                    exact absurd ((Option.some.inj H).trans HLAW.out) (by decide)
                · rw [if_neg c27] at H
                  have c27b0 : (t166 == 0) = false := beq_eq_false_iff_ne.mpr c27
                  have c27b1 : (t166 != 0) = true := bne_iff_ne.mpr c27
                  exact absurd ((Option.some.inj H).trans HLAW.out) (by decide)
              · replace c26 := Bool.eq_false_iff.mpr c26
                subst c26
                have H1 : (some false) = some r := by rw [if_neg (show ¬ (false = true) by decide)] at H; exact H
                clear H
                have H := H1
                clear H1
                exact absurd ((Option.some.inj H).trans HLAW.out) (by decide)

end Go.Proofs.YtjijbncheikagaaDoor.Q
