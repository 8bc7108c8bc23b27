-- Written by hookprint.py (wip/) of this session: the kit's print with hand-proved functions beside it. Not trusted: Lean checks it.
import Derived.Test.YtjijbncheikagaaDoorQ0
import Derived.Test.YtjijbncheikagaaDoorQ3
namespace Go.Proofs.YtjijbncheikagaaDoor.Q
open Go.RowKit Go.Lib Go.Proofs.YtjijbncheikagaaDoorX Go.Proofs.YtjijbncheikagaaDoorW.PrintWords Go.Proofs.YtjijbncheikagaaDoorW.PrintLast Go.Proofs.YtjijbncheikagaaDoorW.PrintMore
attribute [local go_sem] max2_int min2_int max_two min_two max_three min_three max_four min_four   -- for this text's walks alone
set_option linter.unusedVariables false
set_option linter.unusedSimpArgs false

/-! ### cardexlaw02_awake: function 12 -/
def cardexlaw02_awake.f  : Option (Bool) := (escape_Back.f (⟨#[97, 38, 108, 116, 59, 98]⟩ : ByteArray)).bind fun bt154 => ((escape_Text.f (⟨#[97, 60, 98]⟩ : ByteArray)).bind fun t156 => (if t156.toList = ([97, 38, 108, 116, 59, 98] : List UInt8) then (if bt154.2 = 0 then (some (bt154.1.toList == ([97, 60, 98] : List UInt8))) else (some false)) else (some false)))
set_option maxHeartbeats 8000000 in
set_option maxRecDepth 100000 in
theorem cardexlaw02_awake.calls  (r : Bool) (w : World) (h : cardexlaw02_awake.f  = some r) (hT : Tabs w) :
    Calls Tryd.prog 12 #[] w fun e w' => e = .returned (.bool r) ∧ Below w.heap.size w w' := by
  have HT := Aside0.mk hT
  clear hT
  have HB := Aside0.mk (Below.refl w.heap.size w)
  have H : ((escape_Back.f (⟨#[97, 38, 108, 116, 59, 98]⟩ : ByteArray)).bind fun bt154 => ((escape_Text.f (⟨#[97, 60, 98]⟩ : ByteArray)).bind fun t156 => (if t156.toList = ([97, 38, 108, 116, 59, 98] : List UInt8) then (if bt154.2 = 0 then (some (bt154.1.toList == ([97, 60, 98] : List UInt8))) else (some false)) else (some false)))) = some r := h
  clear h
  replace H := Option.bind_eq_some_iff.mp H
  obtain ⟨⟨t154, t155⟩, A10, H⟩ := H
  replace H : ((escape_Text.f (⟨#[97, 60, 98]⟩ : ByteArray)).bind fun t156 => (if t156.toList = ([97, 38, 108, 116, 59, 98] : List UInt8) then (if t155 = 0 then (some (t154.toList == ([97, 60, 98] : List UInt8))) else (some false)) else (some false))) = some r := H
  have A1 := Aside0.mk A10
  clear A10
  replace H := Option.bind_eq_some_iff.mp H
  obtain ⟨t156, A20, H⟩ := H
  replace H : (if t156.toList = ([97, 38, 108, 116, 59, 98] : List UInt8) then (if t155 = 0 then (some (t154.toList == ([97, 60, 98] : List UInt8))) else (some false)) else (some false)) = some r := H
  have A2 := Aside0.mk A20
  clear A20
  by_cases c3 : t156.toList = ([97, 38, 108, 116, 59, 98] : List UInt8)
  · rw [if_pos c3] at H
    have c3b0 : (t156.toList == ([97, 38, 108, 116, 59, 98] : List UInt8)) = true := beq_iff_eq.mpr c3
    have c3b1 : (t156.toList != ([97, 38, 108, 116, 59, 98] : List UInt8)) = false := bne_eq_false_iff_eq.mpr c3
    clear c3
    by_cases c4 : t155 = 0
    · rw [if_pos c4] at H
      have c4b0 : (t155 == 0) = true := beq_iff_eq.mpr c4
      have c4b1 : (t155 != 0) = false := bne_eq_false_iff_eq.mpr c4
      clear c4
      obtain rfl := Option.some.inj H
      go_enter Tryd.func12, Tryd.ntmps12
      go_wp2_with (first | ((with_reducible refine gate_callee (f := 13) rfl ?_); refine goesL_ (some 4) rfl rfl Tryd.func13 (by kernel_rfl) rfl #[.string (⟨#[97, 38, 108, 116, 59, 98]⟩ : ByteArray)] rfl (by (try simp only [List.map_toArray, List.map_cons, List.map_nil]); first | done | rfl | (simp only [List.length_drop, List.length_take]; rfl)) ?_; (with_reducible refine (escape_Back.calls (⟨#[97, 38, 108, 116, 59, 98]⟩ : ByteArray) t154 t155 _ A1.out (tabs_b HT.out (by repeat (first | (with_reducible first | exact HB.out | apply below_alloc | apply pw_below_drewN | apply below_drew1) | exact HB.out)))).mono ?_); rintro e w5 ⟨rfl, hb⟩; refine ⟨_, rfl, ?_⟩; have n0_ := Aside0.mk (below_step (by repeat (first | (with_reducible first | exact HB.out | apply below_alloc | apply pw_below_drewN | apply below_drew1) | exact HB.out)) hb); clear HB; have HB := n0_; clear n0_; (try clear hb); (try clear hb2); (try clear hk); (try clear hi)) | ((with_reducible refine gate_callee (f := 15) rfl ?_); refine goesL_ (some 7) rfl rfl Tryd.func15 (by kernel_rfl) rfl #[.string (⟨#[97, 60, 98]⟩ : ByteArray)] rfl (by (try simp only [List.map_toArray, List.map_cons, List.map_nil]); first | done | rfl | (simp only [List.length_drop, List.length_take]; rfl)) ?_; (with_reducible refine (escape_Text.calls (⟨#[97, 60, 98]⟩ : ByteArray) t156 _ A2.out).mono ?_); rintro e w6 ⟨rfl, hb⟩; refine ⟨_, rfl, ?_⟩; have n0_ := Aside0.mk (below_step (by repeat (first | (with_reducible first | exact HB.out | apply below_alloc | apply pw_below_drewN | apply below_drew1) | exact HB.out)) hb); clear HB; have HB := n0_; clear n0_; (try clear hb); (try clear hb2); (try clear hk); (try clear hi)))
      go_ret
      exact ⟨by first | rfl | (simp [errW_none, errW_some] <;> rfl) | (simp [*, errW_none, errW_some] <;> rfl), by repeat (first | (with_reducible first | exact HB.out | apply below_alloc | apply pw_below_drewN | apply below_drew1) | exact HB.out)⟩
    · rw [if_neg c4] at H
      have c4b0 : (t155 == 0) = false := beq_eq_false_iff_ne.mpr c4
      have c4b1 : (t155 != 0) = true := bne_iff_ne.mpr c4
      obtain rfl := Option.some.inj H
      go_enter Tryd.func12, Tryd.ntmps12
      go_wp2_with (first | ((with_reducible refine gate_callee (f := 13) rfl ?_); refine goesL_ (some 4) rfl rfl Tryd.func13 (by kernel_rfl) rfl #[.string (⟨#[97, 38, 108, 116, 59, 98]⟩ : ByteArray)] rfl (by (try simp only [List.map_toArray, List.map_cons, List.map_nil]); first | done | rfl | (simp only [List.length_drop, List.length_take]; rfl)) ?_; (with_reducible refine (escape_Back.calls (⟨#[97, 38, 108, 116, 59, 98]⟩ : ByteArray) t154 t155 _ A1.out (tabs_b HT.out (by repeat (first | (with_reducible first | exact HB.out | apply below_alloc | apply pw_below_drewN | apply below_drew1) | exact HB.out)))).mono ?_); rintro e w7 ⟨rfl, hb⟩; refine ⟨_, rfl, ?_⟩; have n0_ := Aside0.mk (below_step (by repeat (first | (with_reducible first | exact HB.out | apply below_alloc | apply pw_below_drewN | apply below_drew1) | exact HB.out)) hb); clear HB; have HB := n0_; clear n0_; (try clear hb); (try clear hb2); (try clear hk); (try clear hi)) | ((with_reducible refine gate_callee (f := 15) rfl ?_); refine goesL_ (some 7) rfl rfl Tryd.func15 (by kernel_rfl) rfl #[.string (⟨#[97, 60, 98]⟩ : ByteArray)] rfl (by (try simp only [List.map_toArray, List.map_cons, List.map_nil]); first | done | rfl | (simp only [List.length_drop, List.length_take]; rfl)) ?_; (with_reducible refine (escape_Text.calls (⟨#[97, 60, 98]⟩ : ByteArray) t156 _ A2.out).mono ?_); rintro e w8 ⟨rfl, hb⟩; refine ⟨_, rfl, ?_⟩; have n0_ := Aside0.mk (below_step (by repeat (first | (with_reducible first | exact HB.out | apply below_alloc | apply pw_below_drewN | apply below_drew1) | exact HB.out)) hb); clear HB; have HB := n0_; clear n0_; (try clear hb); (try clear hb2); (try clear hk); (try clear hi)))
      go_ret
      exact ⟨by first | rfl | (simp [errW_none, errW_some] <;> rfl) | (simp [*, errW_none, errW_some] <;> rfl), by repeat (first | (with_reducible first | exact HB.out | apply below_alloc | apply pw_below_drewN | apply below_drew1) | exact HB.out)⟩
  · rw [if_neg c3] at H
    have c3b0 : (t156.toList == ([97, 38, 108, 116, 59, 98] : List UInt8)) = false := beq_eq_false_iff_ne.mpr c3
    have c3b1 : (t156.toList != ([97, 38, 108, 116, 59, 98] : List UInt8)) = true := bne_iff_ne.mpr c3
    obtain rfl := Option.some.inj H
    go_enter Tryd.func12, Tryd.ntmps12
    go_wp2_with (first | ((with_reducible refine gate_callee (f := 13) rfl ?_); refine goesL_ (some 4) rfl rfl Tryd.func13 (by kernel_rfl) rfl #[.string (⟨#[97, 38, 108, 116, 59, 98]⟩ : ByteArray)] rfl (by (try simp only [List.map_toArray, List.map_cons, List.map_nil]); first | done | rfl | (simp only [List.length_drop, List.length_take]; rfl)) ?_; (with_reducible refine (escape_Back.calls (⟨#[97, 38, 108, 116, 59, 98]⟩ : ByteArray) t154 t155 _ A1.out (tabs_b HT.out (by repeat (first | (with_reducible first | exact HB.out | apply below_alloc | apply pw_below_drewN | apply below_drew1) | exact HB.out)))).mono ?_); rintro e w9 ⟨rfl, hb⟩; refine ⟨_, rfl, ?_⟩; have n0_ := Aside0.mk (below_step (by repeat (first | (with_reducible first | exact HB.out | apply below_alloc | apply pw_below_drewN | apply below_drew1) | exact HB.out)) hb); clear HB; have HB := n0_; clear n0_; (try clear hb); (try clear hb2); (try clear hk); (try clear hi)) | ((with_reducible refine gate_callee (f := 15) rfl ?_); refine goesL_ (some 7) rfl rfl Tryd.func15 (by kernel_rfl) rfl #[.string (⟨#[97, 60, 98]⟩ : ByteArray)] rfl (by (try simp only [List.map_toArray, List.map_cons, List.map_nil]); first | done | rfl | (simp only [List.length_drop, List.length_take]; rfl)) ?_; (with_reducible refine (escape_Text.calls (⟨#[97, 60, 98]⟩ : ByteArray) t156 _ A2.out).mono ?_); rintro e w10 ⟨rfl, hb⟩; refine ⟨_, rfl, ?_⟩; have n0_ := Aside0.mk (below_step (by repeat (first | (with_reducible first | exact HB.out | apply below_alloc | apply pw_below_drewN | apply below_drew1) | exact HB.out)) hb); clear HB; have HB := n0_; clear n0_; (try clear hb); (try clear hb2); (try clear hk); (try clear hi)))
    go_ret
    exact ⟨by first | rfl | (simp [errW_none, errW_some] <;> rfl) | (simp [*, errW_none, errW_some] <;> rfl), by repeat (first | (with_reducible first | exact HB.out | apply below_alloc | apply pw_below_drewN | apply below_drew1) | exact HB.out)⟩

/-! ### cardexlaw02_EscapeJoins: function 7 -/
def cardexlaw02_EscapeJoins.j0 : Nat → ByteArray → ByteArray → Bool → Option (Bool)
  | 0, _, _, _ => none
  | k + 1, x0, x1, x18 => if x18 = true then ((cardexlaw02_awake.f).bind fun t157 => (if t157 = true then (some true) else (some false))) else ((escape_Back.f x0).bind fun bt158 => ((escape_Back.f x1).bind fun bt160 => (if x0.size + x1.size ≤ 9223372036854775807 then ((escape_Back.f (x0 ++ x1)).bind fun bt162 => ((cardexlaw02_awake.f).bind fun t164 => (if t164 = true then ((escape_Text.f (x0 ++ x1)).bind fun t165 => ((escape_Text.f x0).bind fun t166 => ((escape_Text.f x1).bind fun t167 => (if t166.size + t167.size ≤ 9223372036854775807 then (if t165.toList = (t166 ++ t167).toList then (if bt158.2 = 0 then (if bt160.2 = 0 then (if bt162.2 = 0 then (if bt158.1.size + bt160.1.size ≤ 9223372036854775807 then (if bt162.1.toList = (bt158.1 ++ bt160.1).toList then (some true) else (some false)) else (none)) else (some false)) else (some true)) else (some true)) else (some false)) else (none))))) else (some false)))) else (none))))
def cardexlaw02_EscapeJoins.f (k : Nat) (a0 : ByteArray) (a1 : ByteArray) : Option (Bool) := if (a0.size : Int) > 300 then (cardexlaw02_EscapeJoins.j0 k a0 a1 true) else (cardexlaw02_EscapeJoins.j0 k a0 a1 (decide ((a1.size : Int) > 300)))
theorem cardexlaw02_EscapeJoins.mono_l : ∀ k, (∀ y0 y1 y2, LeO (cardexlaw02_EscapeJoins.j0 k y0 y1 y2) (cardexlaw02_EscapeJoins.j0 (k + 1) y0 y1 y2))
  | 0 => fun _ _ _ r h => by simp [cardexlaw02_EscapeJoins.j0] at h
  | k + 1 => by
    have ih0 := cardexlaw02_EscapeJoins.mono_l k
    · intro y0 y1 y2
      unfold cardexlaw02_EscapeJoins.j0
      repeat' first
      | (with_reducible exact ih0 _ _ _)
      | (with_reducible exact LeO.refl _)
      | (with_reducible exact LeO.none _)
      | (with_reducible refine LeO.ite ?_ ?_)
      | (with_reducible refine LeO.bind ?_ (fun _ => ?_))
      | exact ih0 _ _ _
      | exact LeO.none _
      | refine LeO.ite ?_ ?_
      | refine LeO.bind ?_ (fun _ => ?_)
theorem cardexlaw02_EscapeJoins.mono : ∀ a0 a1 k, LeO (cardexlaw02_EscapeJoins.f k a0 a1) (cardexlaw02_EscapeJoins.f (k + 1) a0 a1) := by
  intro a0 a1 k
  have ih0 := cardexlaw02_EscapeJoins.mono_l k
  unfold cardexlaw02_EscapeJoins.f
  repeat' first
      | (with_reducible exact ih0 _ _ _)
      | (with_reducible exact LeO.refl _)
      | (with_reducible exact LeO.none _)
      | (with_reducible refine LeO.ite ?_ ?_)
      | (with_reducible refine LeO.bind ?_ (fun _ => ?_))
      | exact ih0 _ _ _
      | exact LeO.none _
      | refine LeO.ite ?_ ?_
      | refine LeO.bind ?_ (fun _ => ?_)
set_option maxHeartbeats 8000000 in
set_option maxRecDepth 100000 in
theorem cardexlaw02_EscapeJoins.calls (k : Nat) (a0 : ByteArray) (a1 : ByteArray) (r : Bool) (w : World) (h : cardexlaw02_EscapeJoins.f k a0 a1 = some r) (hT : Tabs w) (hlaw : r = true) :
    Calls Tryd.prog 7 #[.string a0, .string a1] w fun e w' => e = .returned (.bool r) ∧ Below w.heap.size w w' := by
  have HT := Aside0.mk hT
  clear hT
  have HLAW := Aside0.mk hlaw
  clear hlaw
  have HB := Aside0.mk (Below.refl w.heap.size w)
  have H : (if (a0.size : Int) > 300 then (cardexlaw02_EscapeJoins.j0 k a0 a1 true) else (cardexlaw02_EscapeJoins.j0 k a0 a1 (decide ((a1.size : Int) > 300)))) = some r := h
  clear h
  have HC3 := Aside0.mk H
  clear H
  go_enter Tryd.func7, Tryd.ntmps7
  go_upto_region 1 with (fail)
  go_cut [18] (fun v18 wc => ∃ (kq : Nat) (x18_2 : Bool), v18 = .bool x18_2 ∧ Aside0 (cardexlaw02_EscapeJoins.j0 kq a0 a1 x18_2 = some r) ∧ Aside0 (kq ≤ k) ∧ Aside0 (Below w.heap.size w wc))
  case first =>
    have H := HC3.out
    clear HC3
    by_cases c4 : (a0.size : Int) > 300
    · rw [if_pos c4] at H
      have c4b0 : decide (300 < (a0.size : Int)) = true := decide_eq_true c4
      have c4b1 : decide (300 < a0.size) = true := decide_eq_true (by omega)
      clear c4
      (first | rw [c4b0] | (simp only [i64_w, i32_w]; rw [c4b0]) | skip)
      have H' := Aside0.mk H
      clear H
      go_wp2
      go_meet
      case rel => exact ⟨_, (true), (by first | rfl | (simp; done) | exact congrArg Value.bool (nemp _) | exact congrArg Value.bool (emp _) | (simp [*]; done)), H', ⟨by first | omega | exact Nat.le_refl _⟩, ⟨by repeat (first | (with_reducible first | exact HB.out | apply below_alloc | apply pw_below_drewN | apply below_drew1) | exact HB.out)⟩⟩
    · rw [if_neg c4] at H
      have c4b0 : decide (300 < (a0.size : Int)) = false := decide_eq_false c4
      have c4b1 : decide (300 < a0.size) = false := decide_eq_false (by omega)
      clear c4
      (first | rw [c4b0] | (simp only [i64_w, i32_w]; rw [c4b0]) | skip)
      have H' := Aside0.mk H
      clear H
      go_wp2
      go_meet
      case rel => exact ⟨_, (decide ((a1.size : Int) > 300)), (by first | rfl | (simp; done) | exact congrArg Value.bool (nemp _) | exact congrArg Value.bool (emp _) | (simp [*]; done)), H', ⟨by first | omega | exact Nat.le_refl _⟩, ⟨by repeat (first | (with_reducible first | exact HB.out | apply below_alloc | apply pw_below_drewN | apply below_drew1) | exact HB.out)⟩⟩
  case rest =>
    clear HC3
    try clear p2
    try clear c4
    try clear c4b0
    try clear c4b1
    obtain ⟨kq, x18_2, rfl, HA, HJ2, HB⟩ := hcut
    cases kq with
    | zero => exact absurd HA.out (by simp [cardexlaw02_EscapeJoins.j0])
    | succ kj2 =>
      have H := HA.out
      clear HA
      simp only [cardexlaw02_EscapeJoins.j0] at H
      by_cases c5 : x18_2 = true
      · subst c5
        have H1 : ((cardexlaw02_awake.f).bind fun t157 => (if t157 = true then (some true) else (some false))) = some r := by rw [if_pos rfl] at H; exact H
        clear H
        have H := H1
        clear H1
        replace H := Option.bind_eq_some_iff.mp H
        obtain ⟨t157, A60, H⟩ := H
        replace H : (if t157 = true then (some true) else (some false)) = some r := H
        have A6 := Aside0.mk A60
        clear A60
        by_cases c7 : t157 = true
        · subst c7
          have H1 : (some true) = some r := by rw [if_pos rfl] at H; exact H
          clear H
          have H := H1
          clear H1
          obtain rfl := Option.some.inj H
          go_wp2_with (first | ((with_reducible refine gate_callee (f := 12) rfl ?_); refine goesL_ (some 19) rfl rfl Tryd.func12 (by kernel_rfl) rfl #[] rfl (by (try simp only [List.map_toArray, List.map_cons, List.map_nil]); first | done | rfl | (simp only [List.length_drop, List.length_take]; rfl)) ?_; (with_reducible refine (cardexlaw02_awake.calls  true _ A6.out (tabs_b HT.out (by repeat (first | (with_reducible first | exact HB.out | apply below_alloc | apply pw_below_drewN | apply below_drew1) | exact HB.out)))).mono ?_); rintro e w8 ⟨rfl, hb⟩; refine ⟨_, rfl, ?_⟩; have n0_ := Aside0.mk (below_step (by repeat (first | (with_reducible first | exact HB.out | apply below_alloc | apply pw_below_drewN | apply below_drew1) | exact HB.out)) hb); clear HB; have HB := n0_; clear n0_; (try clear hb); (try clear hb2); (try clear hk); (try clear hi)))
          go_ret
          exact ⟨by first | rfl | (simp [errW_none, errW_some] <;> rfl) | (simp [*, errW_none, errW_some] <;> rfl), by repeat (first | (with_reducible first | exact HB.out | apply below_alloc | apply pw_below_drewN | apply below_drew1) | exact HB.out)⟩
        · replace c7 := Bool.eq_false_iff.mpr c7
          subst c7
          have H1 : (some false) = some r := by rw [if_neg (show ¬ (false = true) by decide)] at H; exact H
          clear H
          have H := H1
          clear H1
          exact absurd ((Option.some.inj H).trans HLAW.out) (by decide)
      · replace c5 := Bool.eq_false_iff.mpr c5
        subst c5
        have H1 : ((escape_Back.f a0).bind fun bt158 => ((escape_Back.f a1).bind fun bt160 => (if a0.size + a1.size ≤ 9223372036854775807 then ((escape_Back.f (a0 ++ a1)).bind fun bt162 => ((cardexlaw02_awake.f).bind fun t164 => (if t164 = true then ((escape_Text.f (a0 ++ a1)).bind fun t165 => ((escape_Text.f a0).bind fun t166 => ((escape_Text.f a1).bind fun t167 => (if t166.size + t167.size ≤ 9223372036854775807 then (if t165.toList = (t166 ++ t167).toList then (if bt158.2 = 0 then (if bt160.2 = 0 then (if bt162.2 = 0 then (if bt158.1.size + bt160.1.size ≤ 9223372036854775807 then (if bt162.1.toList = (bt158.1 ++ bt160.1).toList then (some true) else (some false)) else (none)) else (some false)) else (some true)) else (some true)) else (some false)) else (none))))) else (some false)))) else (none)))) = some r := by rw [if_neg (show ¬ (false = true) by decide)] at H; exact H
        clear H
        have H := H1
        clear H1
        replace H := Option.bind_eq_some_iff.mp H
        obtain ⟨⟨t158, t159⟩, A90, H⟩ := H
        replace H : ((escape_Back.f a1).bind fun bt160 => (if a0.size + a1.size ≤ 9223372036854775807 then ((escape_Back.f (a0 ++ a1)).bind fun bt162 => ((cardexlaw02_awake.f).bind fun t164 => (if t164 = true then ((escape_Text.f (a0 ++ a1)).bind fun t165 => ((escape_Text.f a0).bind fun t166 => ((escape_Text.f a1).bind fun t167 => (if t166.size + t167.size ≤ 9223372036854775807 then (if t165.toList = (t166 ++ t167).toList then (if t159 = 0 then (if bt160.2 = 0 then (if bt162.2 = 0 then (if t158.size + bt160.1.size ≤ 9223372036854775807 then (if bt162.1.toList = (t158 ++ bt160.1).toList then (some true) else (some false)) else (none)) else (some false)) else (some true)) else (some true)) else (some false)) else (none))))) else (some false)))) else (none))) = some r := H
        have A9 := Aside0.mk A90
        clear A90
        replace H := Option.bind_eq_some_iff.mp H
        obtain ⟨⟨t160, t161⟩, A100, H⟩ := H
        replace H : (if a0.size + a1.size ≤ 9223372036854775807 then ((escape_Back.f (a0 ++ a1)).bind fun bt162 => ((cardexlaw02_awake.f).bind fun t164 => (if t164 = true then ((escape_Text.f (a0 ++ a1)).bind fun t165 => ((escape_Text.f a0).bind fun t166 => ((escape_Text.f a1).bind fun t167 => (if t166.size + t167.size ≤ 9223372036854775807 then (if t165.toList = (t166 ++ t167).toList then (if t159 = 0 then (if t161 = 0 then (if bt162.2 = 0 then (if t158.size + t160.size ≤ 9223372036854775807 then (if bt162.1.toList = (t158 ++ t160).toList then (some true) else (some false)) else (none)) else (some false)) else (some true)) else (some true)) else (some false)) else (none))))) else (some false)))) else (none)) = some r := H
        have A10 := Aside0.mk A100
        clear A100
        by_cases c11 : a0.size + a1.size ≤ 9223372036854775807
        · rw [if_pos c11] at H
          have c11b0 := eq_true c11
          have c11b1 : decide (a0.size + a1.size ≤ 9223372036854775807) = true := decide_eq_true c11
          try have c11b2 : (9223372036854775807 < a0.size + a1.size) = False := eq_false (Nat.not_lt.2 c11)
          replace H := Option.bind_eq_some_iff.mp H
          obtain ⟨⟨t162, t163⟩, A120, H⟩ := H
          replace H : ((cardexlaw02_awake.f).bind fun t164 => (if t164 = true then ((escape_Text.f (a0 ++ a1)).bind fun t165 => ((escape_Text.f a0).bind fun t166 => ((escape_Text.f a1).bind fun t167 => (if t166.size + t167.size ≤ 9223372036854775807 then (if t165.toList = (t166 ++ t167).toList then (if t159 = 0 then (if t161 = 0 then (if t163 = 0 then (if t158.size + t160.size ≤ 9223372036854775807 then (if t162.toList = (t158 ++ t160).toList then (some true) else (some false)) else (none)) else (some false)) else (some true)) else (some true)) else (some false)) else (none))))) else (some false))) = some r := H
          have A12 := Aside0.mk A120
          clear A120
          replace H := Option.bind_eq_some_iff.mp H
          obtain ⟨t164, A130, H⟩ := H
          replace H : (if t164 = true then ((escape_Text.f (a0 ++ a1)).bind fun t165 => ((escape_Text.f a0).bind fun t166 => ((escape_Text.f a1).bind fun t167 => (if t166.size + t167.size ≤ 9223372036854775807 then (if t165.toList = (t166 ++ t167).toList then (if t159 = 0 then (if t161 = 0 then (if t163 = 0 then (if t158.size + t160.size ≤ 9223372036854775807 then (if t162.toList = (t158 ++ t160).toList then (some true) else (some false)) else (none)) else (some false)) else (some true)) else (some true)) else (some false)) else (none))))) else (some false)) = some r := H
          have A13 := Aside0.mk A130
          clear A130
          by_cases c14 : t164 = true
          · subst c14
            have H1 : ((escape_Text.f (a0 ++ a1)).bind fun t165 => ((escape_Text.f a0).bind fun t166 => ((escape_Text.f a1).bind fun t167 => (if t166.size + t167.size ≤ 9223372036854775807 then (if t165.toList = (t166 ++ t167).toList then (if t159 = 0 then (if t161 = 0 then (if t163 = 0 then (if t158.size + t160.size ≤ 9223372036854775807 then (if t162.toList = (t158 ++ t160).toList then (some true) else (some false)) else (none)) else (some false)) else (some true)) else (some true)) else (some false)) else (none))))) = some r := by rw [if_pos rfl] at H; exact H
            clear H
            have H := H1
            clear H1
            replace H := Option.bind_eq_some_iff.mp H
            obtain ⟨t165, A150, H⟩ := H
            replace H : ((escape_Text.f a0).bind fun t166 => ((escape_Text.f a1).bind fun t167 => (if t166.size + t167.size ≤ 9223372036854775807 then (if t165.toList = (t166 ++ t167).toList then (if t159 = 0 then (if t161 = 0 then (if t163 = 0 then (if t158.size + t160.size ≤ 9223372036854775807 then (if t162.toList = (t158 ++ t160).toList then (some true) else (some false)) else (none)) else (some false)) else (some true)) else (some true)) else (some false)) else (none)))) = some r := H
            have A15 := Aside0.mk A150
            clear A150
            replace H := Option.bind_eq_some_iff.mp H
            obtain ⟨t166, A160, H⟩ := H
            replace H : ((escape_Text.f a1).bind fun t167 => (if t166.size + t167.size ≤ 9223372036854775807 then (if t165.toList = (t166 ++ t167).toList then (if t159 = 0 then (if t161 = 0 then (if t163 = 0 then (if t158.size + t160.size ≤ 9223372036854775807 then (if t162.toList = (t158 ++ t160).toList then (some true) else (some false)) else (none)) else (some false)) else (some true)) else (some true)) else (some false)) else (none))) = some r := H
            have A16 := Aside0.mk A160
            clear A160
            replace H := Option.bind_eq_some_iff.mp H
            obtain ⟨t167, A170, H⟩ := H
            replace H : (if t166.size + t167.size ≤ 9223372036854775807 then (if t165.toList = (t166 ++ t167).toList then (if t159 = 0 then (if t161 = 0 then (if t163 = 0 then (if t158.size + t160.size ≤ 9223372036854775807 then (if t162.toList = (t158 ++ t160).toList then (some true) else (some false)) else (none)) else (some false)) else (some true)) else (some true)) else (some false)) else (none)) = some r := H
            have A17 := Aside0.mk A170
            clear A170
            by_cases c18 : t166.size + t167.size ≤ 9223372036854775807
            · rw [if_pos c18] at H
              have c18b0 := eq_true c18
              have c18b1 : decide (t166.size + t167.size ≤ 9223372036854775807) = true := decide_eq_true c18
              try have c18b2 : (9223372036854775807 < t166.size + t167.size) = False := eq_false (Nat.not_lt.2 c18)
              by_cases c19 : t165.toList = (t166 ++ t167).toList
              · rw [if_pos c19] at H
                have c19b0 : (t165.toList == (t166 ++ t167).toList) = true := beq_iff_eq.mpr c19
                have c19b1 : (t165.toList != (t166 ++ t167).toList) = false := bne_eq_false_iff_eq.mpr c19
                clear c19
                by_cases c20 : t159 = 0
                · rw [if_pos c20] at H
                  have c20b0 : (t159 == 0) = true := beq_iff_eq.mpr c20
                  have c20b1 : (t159 != 0) = false := bne_eq_false_iff_eq.mpr c20
                  clear c20
                  by_cases c21 : t161 = 0
                  · rw [if_pos c21] at H
                    have c21b0 : (t161 == 0) = true := beq_iff_eq.mpr c21
                    have c21b1 : (t161 != 0) = false := bne_eq_false_iff_eq.mpr c21
                    clear c21
                    by_cases c22 : t163 = 0
                    · rw [if_pos c22] at H
                      have c22b0 : (t163 == 0) = true := beq_iff_eq.mpr c22
                      have c22b1 : (t163 != 0) = false := bne_eq_false_iff_eq.mpr c22
                      clear c22
                      by_cases c23 : t158.size + t160.size ≤ 9223372036854775807
                      · rw [if_pos c23] at H
                        have c23b0 := eq_true c23
                        have c23b1 : decide (t158.size + t160.size ≤ 9223372036854775807) = true := decide_eq_true c23
                        try have c23b2 : (9223372036854775807 < t158.size + t160.size) = False := eq_false (Nat.not_lt.2 c23)
                        by_cases c24 : t162.toList = (t158 ++ t160).toList
                        · rw [if_pos c24] at H
                          have c24b0 : (t162.toList == (t158 ++ t160).toList) = true := beq_iff_eq.mpr c24
                          have c24b1 : (t162.toList != (t158 ++ t160).toList) = false := bne_eq_false_iff_eq.mpr c24
                          clear c24
                          obtain rfl := Option.some.inj H
                          go_wp2_with (first | ((with_reducible refine gate_callee (f := 13) rfl ?_); refine goesL_ (some 22) rfl rfl Tryd.func13 (by kernel_rfl) rfl #[.string a0] rfl (by (try simp only [List.map_toArray, List.map_cons, List.map_nil]); first | done | rfl | (simp only [List.length_drop, List.length_take]; rfl)) ?_; (with_reducible refine (escape_Back.calls a0 t158 t159 _ A9.out (tabs_b HT.out (by repeat (first | (with_reducible first | exact HB.out | apply below_alloc | apply pw_below_drewN | apply below_drew1) | exact HB.out)))).mono ?_); rintro e w25 ⟨rfl, hb⟩; refine ⟨_, rfl, ?_⟩; have n0_ := Aside0.mk (below_step (by repeat (first | (with_reducible first | exact HB.out | apply below_alloc | apply pw_below_drewN | apply below_drew1) | exact HB.out)) hb); clear HB; have HB := n0_; clear n0_; (try clear hb); (try clear hb2); (try clear hk); (try clear hi)) | ((with_reducible refine gate_callee (f := 13) rfl ?_); refine goesL_ (some 27) rfl rfl Tryd.func13 (by kernel_rfl) rfl #[.string a1] rfl (by (try simp only [List.map_toArray, List.map_cons, List.map_nil]); first | done | rfl | (simp only [List.length_drop, List.length_take]; rfl)) ?_; (with_reducible refine (escape_Back.calls a1 t160 t161 _ A10.out (tabs_b HT.out (by repeat (first | (with_reducible first | exact HB.out | apply below_alloc | apply pw_below_drewN | apply below_drew1) | exact HB.out)))).mono ?_); rintro e w26 ⟨rfl, hb⟩; refine ⟨_, rfl, ?_⟩; have n0_ := Aside0.mk (below_step (by repeat (first | (with_reducible first | exact HB.out | apply below_alloc | apply pw_below_drewN | apply below_drew1) | exact HB.out)) hb); clear HB; have HB := n0_; clear n0_; (try clear hb); (try clear hb2); (try clear hk); (try clear hi)) | ((with_reducible refine gate_callee (f := 13) rfl ?_); refine goesL_ (some 34) rfl rfl Tryd.func13 (by kernel_rfl) rfl #[.string (a0 ++ a1)] rfl (by (try simp only [List.map_toArray, List.map_cons, List.map_nil]); first | done | rfl | (simp only [List.length_drop, List.length_take]; rfl)) ?_; (with_reducible refine (escape_Back.calls (a0 ++ a1) t162 t163 _ A12.out (tabs_b HT.out (by repeat (first | (with_reducible first | exact HB.out | apply below_alloc | apply pw_below_drewN | apply below_drew1) | exact HB.out)))).mono ?_); rintro e w27 ⟨rfl, hb⟩; refine ⟨_, rfl, ?_⟩; have n0_ := Aside0.mk (below_step (by repeat (first | (with_reducible first | exact HB.out | apply below_alloc | apply pw_below_drewN | apply below_drew1) | exact HB.out)) hb); clear HB; have HB := n0_; clear n0_; (try clear hb); (try clear hb2); (try clear hk); (try clear hi)) | ((with_reducible refine gate_callee (f := 12) rfl ?_); refine goesL_ (some 37) rfl rfl Tryd.func12 (by kernel_rfl) rfl #[] rfl (by (try simp only [List.map_toArray, List.map_cons, List.map_nil]); first | done | rfl | (simp only [List.length_drop, List.length_take]; rfl)) ?_; (with_reducible refine (cardexlaw02_awake.calls  true _ A13.out (tabs_b HT.out (by repeat (first | (with_reducible first | exact HB.out | apply below_alloc | apply pw_below_drewN | apply below_drew1) | exact HB.out)))).mono ?_); rintro e w28 ⟨rfl, hb⟩; refine ⟨_, rfl, ?_⟩; have n0_ := Aside0.mk (below_step (by repeat (first | (with_reducible first | exact HB.out | apply below_alloc | apply pw_below_drewN | apply below_drew1) | exact HB.out)) hb); clear HB; have HB := n0_; clear n0_; (try clear hb); (try clear hb2); (try clear hk); (try clear hi)) | (go_at_call 15; (with_reducible refine (escape_Text.calls (a0 ++ a1) t165 _ A15.out).mono ?_); rintro e w29 ⟨rfl, hb⟩; have n0_ := Aside0.mk (below_step (by repeat (first | (with_reducible first | exact HB.out | apply below_alloc | apply pw_below_drewN | apply below_drew1) | exact HB.out)) hb); clear HB; have HB := n0_; clear n0_; (try clear hb); (try clear hb2); (try clear hk); (try clear hi)) | (go_at_call 15; (with_reducible refine (escape_Text.calls a0 t166 _ A16.out).mono ?_); rintro e w30 ⟨rfl, hb⟩; have n0_ := Aside0.mk (below_step (by repeat (first | (with_reducible first | exact HB.out | apply below_alloc | apply pw_below_drewN | apply below_drew1) | exact HB.out)) hb); clear HB; have HB := n0_; clear n0_; (try clear hb); (try clear hb2); (try clear hk); (try clear hi)) | (go_at_call 15; (with_reducible refine (escape_Text.calls a1 t167 _ A17.out).mono ?_); rintro e w31 ⟨rfl, hb⟩; have n0_ := Aside0.mk (below_step (by repeat (first | (with_reducible first | exact HB.out | apply below_alloc | apply pw_below_drewN | apply below_drew1) | exact HB.out)) hb); clear HB; have HB := n0_; clear n0_; (try clear hb); (try clear hb2); (try clear hk); (try clear hi)))
                          go_ret
                          exact ⟨by first | rfl | (simp [errW_none, errW_some] <;> rfl) | (simp [*, errW_none, errW_some] <;> rfl), by repeat (first | (with_reducible first | exact HB.out | apply below_alloc | apply pw_below_drewN | apply below_drew1) | exact HB.out)⟩
                        · rw [if_neg c24] at H
                          have c24b0 : (t162.toList == (t158 ++ t160).toList) = false := beq_eq_false_iff_ne.mpr c24
                          have c24b1 : (t162.toList != (t158 ++ t160).toList) = true := bne_iff_ne.mpr c24
                          exact absurd ((Option.some.inj H).trans HLAW.out) (by decide)
                      · rw [if_neg c23] at H
                        exact absurd H (by simp)
                    · rw [if_neg c22] at H
                      have c22b0 : (t163 == 0) = false := beq_eq_false_iff_ne.mpr c22
                      have c22b1 : (t163 != 0) = true := bne_iff_ne.mpr c22
                      exact absurd ((Option.some.inj H).trans HLAW.out) (by decide)
                  · rw [if_neg c21] at H
                    have c21b0 : (t161 == 0) = false := beq_eq_false_iff_ne.mpr c21
                    have c21b1 : (t161 != 0) = true := bne_iff_ne.mpr c21
                    obtain rfl := Option.some.inj H
                    go_wp2_with (first | ((with_reducible refine gate_callee (f := 13) rfl ?_); refine goesL_ (some 22) rfl rfl Tryd.func13 (by kernel_rfl) rfl #[.string a0] rfl (by (try simp only [List.map_toArray, List.map_cons, List.map_nil]); first | done | rfl | (simp only [List.length_drop, List.length_take]; rfl)) ?_; (with_reducible refine (escape_Back.calls a0 t158 t159 _ A9.out (tabs_b HT.out (by repeat (first | (with_reducible first | exact HB.out | apply below_alloc | apply pw_below_drewN | apply below_drew1) | exact HB.out)))).mono ?_); rintro e w32 ⟨rfl, hb⟩; refine ⟨_, rfl, ?_⟩; have n0_ := Aside0.mk (below_step (by repeat (first | (with_reducible first | exact HB.out | apply below_alloc | apply pw_below_drewN | apply below_drew1) | exact HB.out)) hb); clear HB; have HB := n0_; clear n0_; (try clear hb); (try clear hb2); (try clear hk); (try clear hi)) | ((with_reducible refine gate_callee (f := 13) rfl ?_); refine goesL_ (some 27) rfl rfl Tryd.func13 (by kernel_rfl) rfl #[.string a1] rfl (by (try simp only [List.map_toArray, List.map_cons, List.map_nil]); first | done | rfl | (simp only [List.length_drop, List.length_take]; rfl)) ?_; (with_reducible refine (escape_Back.calls a1 t160 t161 _ A10.out (tabs_b HT.out (by repeat (first | (with_reducible first | exact HB.out | apply below_alloc | apply pw_below_drewN | apply below_drew1) | exact HB.out)))).mono ?_); rintro e w33 ⟨rfl, hb⟩; refine ⟨_, rfl, ?_⟩; have n0_ := Aside0.mk (below_step (by repeat (first | (with_reducible first | exact HB.out | apply below_alloc | apply pw_below_drewN | apply below_drew1) | exact HB.out)) hb); clear HB; have HB := n0_; clear n0_; (try clear hb); (try clear hb2); (try clear hk); (try clear hi)) | ((with_reducible refine gate_callee (f := 13) rfl ?_); refine goesL_ (some 34) rfl rfl Tryd.func13 (by kernel_rfl) rfl #[.string (a0 ++ a1)] rfl (by (try simp only [List.map_toArray, List.map_cons, List.map_nil]); first | done | rfl | (simp only [List.length_drop, List.length_take]; rfl)) ?_; (with_reducible refine (escape_Back.calls (a0 ++ a1) t162 t163 _ A12.out (tabs_b HT.out (by repeat (first | (with_reducible first | exact HB.out | apply below_alloc | apply pw_below_drewN | apply below_drew1) | exact HB.out)))).mono ?_); rintro e w34 ⟨rfl, hb⟩; refine ⟨_, rfl, ?_⟩; have n0_ := Aside0.mk (below_step (by repeat (first | (with_reducible first | exact HB.out | apply below_alloc | apply pw_below_drewN | apply below_drew1) | exact HB.out)) hb); clear HB; have HB := n0_; clear n0_; (try clear hb); (try clear hb2); (try clear hk); (try clear hi)) | ((with_reducible refine gate_callee (f := 12) rfl ?_); refine goesL_ (some 37) rfl rfl Tryd.func12 (by kernel_rfl) rfl #[] rfl (by (try simp only [List.map_toArray, List.map_cons, List.map_nil]); first | done | rfl | (simp only [List.length_drop, List.length_take]; rfl)) ?_; (with_reducible refine (cardexlaw02_awake.calls  true _ A13.out (tabs_b HT.out (by repeat (first | (with_reducible first | exact HB.out | apply below_alloc | apply pw_below_drewN | apply below_drew1) | exact HB.out)))).mono ?_); rintro e w35 ⟨rfl, hb⟩; refine ⟨_, rfl, ?_⟩; have n0_ := Aside0.mk (below_step (by repeat (first | (with_reducible first | exact HB.out | apply below_alloc | apply pw_below_drewN | apply below_drew1) | exact HB.out)) hb); clear HB; have HB := n0_; clear n0_; (try clear hb); (try clear hb2); (try clear hk); (try clear hi)) | (go_at_call 15; (with_reducible refine (escape_Text.calls (a0 ++ a1) t165 _ A15.out).mono ?_); rintro e w36 ⟨rfl, hb⟩; have n0_ := Aside0.mk (below_step (by repeat (first | (with_reducible first | exact HB.out | apply below_alloc | apply pw_below_drewN | apply below_drew1) | exact HB.out)) hb); clear HB; have HB := n0_; clear n0_; (try clear hb); (try clear hb2); (try clear hk); (try clear hi)) | (go_at_call 15; (with_reducible refine (escape_Text.calls a0 t166 _ A16.out).mono ?_); rintro e w37 ⟨rfl, hb⟩; have n0_ := Aside0.mk (below_step (by repeat (first | (with_reducible first | exact HB.out | apply below_alloc | apply pw_below_drewN | apply below_drew1) | exact HB.out)) hb); clear HB; have HB := n0_; clear n0_; (try clear hb); (try clear hb2); (try clear hk); (try clear hi)) | (go_at_call 15; (with_reducible refine (escape_Text.calls a1 t167 _ A17.out).mono ?_); rintro e w38 ⟨rfl, hb⟩; have n0_ := Aside0.mk (below_step (by repeat (first | (with_reducible first | exact HB.out | apply below_alloc | apply pw_below_drewN | apply below_drew1) | exact HB.out)) hb); clear HB; have HB := n0_; clear n0_; (try clear hb); (try clear hb2); (try clear hk); (try clear hi)))
                    go_ret
                    exact ⟨by first | rfl | (simp [errW_none, errW_some] <;> rfl) | (simp [*, errW_none, errW_some] <;> rfl), by repeat (first | (with_reducible first | exact HB.out | apply below_alloc | apply pw_below_drewN | apply below_drew1) | exact HB.out)⟩
                · rw [if_neg c20] at H
                  have c20b0 : (t159 == 0) = false := beq_eq_false_iff_ne.mpr c20
                  have c20b1 : (t159 != 0) = true := bne_iff_ne.mpr c20
                  obtain rfl := Option.some.inj H
                  go_wp2_with (first | ((with_reducible refine gate_callee (f := 13) rfl ?_); refine goesL_ (some 22) rfl rfl Tryd.func13 (by kernel_rfl) rfl #[.string a0] rfl (by (try simp only [List.map_toArray, List.map_cons, List.map_nil]); first | done | rfl | (simp only [List.length_drop, List.length_take]; rfl)) ?_; (with_reducible refine (escape_Back.calls a0 t158 t159 _ A9.out (tabs_b HT.out (by repeat (first | (with_reducible first | exact HB.out | apply below_alloc | apply pw_below_drewN | apply below_drew1) | exact HB.out)))).mono ?_); rintro e w39 ⟨rfl, hb⟩; refine ⟨_, rfl, ?_⟩; have n0_ := Aside0.mk (below_step (by repeat (first | (with_reducible first | exact HB.out | apply below_alloc | apply pw_below_drewN | apply below_drew1) | exact HB.out)) hb); clear HB; have HB := n0_; clear n0_; (try clear hb); (try clear hb2); (try clear hk); (try clear hi)) | ((with_reducible refine gate_callee (f := 13) rfl ?_); refine goesL_ (some 27) rfl rfl Tryd.func13 (by kernel_rfl) rfl #[.string a1] rfl (by (try simp only [List.map_toArray, List.map_cons, List.map_nil]); first | done | rfl | (simp only [List.length_drop, List.length_take]; rfl)) ?_; (with_reducible refine (escape_Back.calls a1 t160 t161 _ A10.out (tabs_b HT.out (by repeat (first | (with_reducible first | exact HB.out | apply below_alloc | apply pw_below_drewN | apply below_drew1) | exact HB.out)))).mono ?_); rintro e w40 ⟨rfl, hb⟩; refine ⟨_, rfl, ?_⟩; have n0_ := Aside0.mk (below_step (by repeat (first | (with_reducible first | exact HB.out | apply below_alloc | apply pw_below_drewN | apply below_drew1) | exact HB.out)) hb); clear HB; have HB := n0_; clear n0_; (try clear hb); (try clear hb2); (try clear hk); (try clear hi)) | ((with_reducible refine gate_callee (f := 13) rfl ?_); refine goesL_ (some 34) rfl rfl Tryd.func13 (by kernel_rfl) rfl #[.string (a0 ++ a1)] rfl (by (try simp only [List.map_toArray, List.map_cons, List.map_nil]); first | done | rfl | (simp only [List.length_drop, List.length_take]; rfl)) ?_; (with_reducible refine (escape_Back.calls (a0 ++ a1) t162 t163 _ A12.out (tabs_b HT.out (by repeat (first | (with_reducible first | exact HB.out | apply below_alloc | apply pw_below_drewN | apply below_drew1) | exact HB.out)))).mono ?_); rintro e w41 ⟨rfl, hb⟩; refine ⟨_, rfl, ?_⟩; have n0_ := Aside0.mk (below_step (by repeat (first | (with_reducible first | exact HB.out | apply below_alloc | apply pw_below_drewN | apply below_drew1) | exact HB.out)) hb); clear HB; have HB := n0_; clear n0_; (try clear hb); (try clear hb2); (try clear hk); (try clear hi)) | ((with_reducible refine gate_callee (f := 12) rfl ?_); refine goesL_ (some 37) rfl rfl Tryd.func12 (by kernel_rfl) rfl #[] rfl (by (try simp only [List.map_toArray, List.map_cons, List.map_nil]); first | done | rfl | (simp only [List.length_drop, List.length_take]; rfl)) ?_; (with_reducible refine (cardexlaw02_awake.calls  true _ A13.out (tabs_b HT.out (by repeat (first | (with_reducible first | exact HB.out | apply below_alloc | apply pw_below_drewN | apply below_drew1) | exact HB.out)))).mono ?_); rintro e w42 ⟨rfl, hb⟩; refine ⟨_, rfl, ?_⟩; have n0_ := Aside0.mk (below_step (by repeat (first | (with_reducible first | exact HB.out | apply below_alloc | apply pw_below_drewN | apply below_drew1) | exact HB.out)) hb); clear HB; have HB := n0_; clear n0_; (try clear hb); (try clear hb2); (try clear hk); (try clear hi)) | (go_at_call 15; (with_reducible refine (escape_Text.calls (a0 ++ a1) t165 _ A15.out).mono ?_); rintro e w43 ⟨rfl, hb⟩; have n0_ := Aside0.mk (below_step (by repeat (first | (with_reducible first | exact HB.out | apply below_alloc | apply pw_below_drewN | apply below_drew1) | exact HB.out)) hb); clear HB; have HB := n0_; clear n0_; (try clear hb); (try clear hb2); (try clear hk); (try clear hi)) | (go_at_call 15; (with_reducible refine (escape_Text.calls a0 t166 _ A16.out).mono ?_); rintro e w44 ⟨rfl, hb⟩; have n0_ := Aside0.mk (below_step (by repeat (first | (with_reducible first | exact HB.out | apply below_alloc | apply pw_below_drewN | apply below_drew1) | exact HB.out)) hb); clear HB; have HB := n0_; clear n0_; (try clear hb); (try clear hb2); (try clear hk); (try clear hi)) | (go_at_call 15; (with_reducible refine (escape_Text.calls a1 t167 _ A17.out).mono ?_); rintro e w45 ⟨rfl, hb⟩; have n0_ := Aside0.mk (below_step (by repeat (first | (with_reducible first | exact HB.out | apply below_alloc | apply pw_below_drewN | apply below_drew1) | exact HB.out)) hb); clear HB; have HB := n0_; clear n0_; (try clear hb); (try clear hb2); (try clear hk); (try clear hi)))
                  go_ret
                  exact ⟨by first | rfl | (simp [errW_none, errW_some] <;> rfl) | (simp [*, errW_none, errW_some] <;> rfl), by repeat (first | (with_reducible first | exact HB.out | apply below_alloc | apply pw_below_drewN | apply below_drew1) | exact HB.out)⟩
              · rw [if_neg c19] at H
                have c19b0 : (t165.toList == (t166 ++ t167).toList) = false := beq_eq_false_iff_ne.mpr c19
                have c19b1 : (t165.toList != (t166 ++ t167).toList) = true := bne_iff_ne.mpr c19
                exact absurd ((Option.some.inj H).trans HLAW.out) (by decide)
            · rw [if_neg c18] at H
              exact absurd H (by simp)
          · replace c14 := Bool.eq_false_iff.mpr c14
            subst c14
            have H1 : (some false) = some r := by rw [if_neg (show ¬ (false = true) by decide)] at H; exact H
            clear H
            have H := H1
            clear H1
            exact absurd ((Option.some.inj H).trans HLAW.out) (by decide)
        · rw [if_neg c11] at H
          exact absurd H (by simp)

/-! ### cardexref01_Char: function 19 -/
def cardexref01_Char.f (a0 : Int) : Option (Bool) := if a0 = 9 then (some true) else (if a0 = 10 then (some true) else (if a0 = 13 then (some true) else (if a0 ≥ 32 then (if a0 < 55296 then (some true) else (if a0 > 57343 then (if a0 < 65534 then (some true) else (if a0 > 65535 then (some (decide (a0 ≤ 1114111))) else (some false))) else (if a0 > 65535 then (some (decide (a0 ≤ 1114111))) else (some false)))) else (if a0 > 57343 then (if a0 < 65534 then (some true) else (if a0 > 65535 then (some (decide (a0 ≤ 1114111))) else (some false))) else (if a0 > 65535 then (some (decide (a0 ≤ 1114111))) else (some false))))))
set_option maxHeartbeats 8000000 in
set_option maxRecDepth 100000 in
theorem cardexref01_Char.calls (a0 : Int) (r : Bool) (w : World) (h : cardexref01_Char.f a0 = some r) :
    Calls Tryd.prog 19 #[.int .i64 a0] w fun e w' => e = .returned (.bool r) ∧ Drawn0 w w' := by
  have H : (if a0 = 9 then (some true) else (if a0 = 10 then (some true) else (if a0 = 13 then (some true) else (if a0 ≥ 32 then (if a0 < 55296 then (some true) else (if a0 > 57343 then (if a0 < 65534 then (some true) else (if a0 > 65535 then (some (decide (a0 ≤ 1114111))) else (some false))) else (if a0 > 65535 then (some (decide (a0 ≤ 1114111))) else (some false)))) else (if a0 > 57343 then (if a0 < 65534 then (some true) else (if a0 > 65535 then (some (decide (a0 ≤ 1114111))) else (some false))) else (if a0 > 65535 then (some (decide (a0 ≤ 1114111))) else (some false))))))) = some r := h
  clear h
  by_cases c2 : a0 = 9
  · rw [if_pos c2] at H
    have c2b0 : (a0 == 9) = true := beq_iff_eq.mpr c2
    have c2b1 : (a0 != 9) = false := bne_eq_false_iff_eq.mpr c2
    clear c2
    obtain rfl := Option.some.inj H
    go_enter Tryd.func19, Tryd.ntmps19
    go_wp2
    go_ret
    exact ⟨by first | rfl | (simp; done) | exact congrArg Value.bool (nemp _) | exact congrArg Value.bool (emp _) | (simp [*]; done), by repeat (first | exact Drawn0.refl _ | apply Drawn0.step)⟩
  · rw [if_neg c2] at H
    have c2b0 : (a0 == 9) = false := beq_eq_false_iff_ne.mpr c2
    have c2b1 : (a0 != 9) = true := bne_iff_ne.mpr c2
    by_cases c3 : a0 = 10
    · rw [if_pos c3] at H
      have c3b0 : (a0 == 10) = true := beq_iff_eq.mpr c3
      have c3b1 : (a0 != 10) = false := bne_eq_false_iff_eq.mpr c3
      clear c3
      obtain rfl := Option.some.inj H
      go_enter Tryd.func19, Tryd.ntmps19
      go_wp2
      go_ret
      exact ⟨by first | rfl | (simp; done) | exact congrArg Value.bool (nemp _) | exact congrArg Value.bool (emp _) | (simp [*]; done), by repeat (first | exact Drawn0.refl _ | apply Drawn0.step)⟩
    · rw [if_neg c3] at H
      have c3b0 : (a0 == 10) = false := beq_eq_false_iff_ne.mpr c3
      have c3b1 : (a0 != 10) = true := bne_iff_ne.mpr c3
      by_cases c4 : a0 = 13
      · rw [if_pos c4] at H
        have c4b0 : (a0 == 13) = true := beq_iff_eq.mpr c4
        have c4b1 : (a0 != 13) = false := bne_eq_false_iff_eq.mpr c4
        clear c4
        obtain rfl := Option.some.inj H
        go_enter Tryd.func19, Tryd.ntmps19
        go_wp2
        go_ret
        exact ⟨by first | rfl | (simp; done) | exact congrArg Value.bool (nemp _) | exact congrArg Value.bool (emp _) | (simp [*]; done), by repeat (first | exact Drawn0.refl _ | apply Drawn0.step)⟩
      · rw [if_neg c4] at H
        have c4b0 : (a0 == 13) = false := beq_eq_false_iff_ne.mpr c4
        have c4b1 : (a0 != 13) = true := bne_iff_ne.mpr c4
        by_cases c5 : a0 ≥ 32
        · rw [if_pos c5] at H
          have c5b0 : decide (32 ≤ a0) = true := decide_eq_true c5
          clear c5
          by_cases c6 : a0 < 55296
          · rw [if_pos c6] at H
            have c6b0 : decide (a0 < 55296) = true := decide_eq_true c6
            clear c6
            obtain rfl := Option.some.inj H
            go_enter Tryd.func19, Tryd.ntmps19
            go_wp2
            go_ret
            exact ⟨by first | rfl | (simp; done) | exact congrArg Value.bool (nemp _) | exact congrArg Value.bool (emp _) | (simp [*]; done), by repeat (first | exact Drawn0.refl _ | apply Drawn0.step)⟩
          · rw [if_neg c6] at H
            have c6b0 : decide (a0 < 55296) = false := decide_eq_false c6
            clear c6
            by_cases c7 : a0 > 57343
            · rw [if_pos c7] at H
              have c7b0 : decide (57343 < a0) = true := decide_eq_true c7
              clear c7
              by_cases c8 : a0 < 65534
              · rw [if_pos c8] at H
                have c8b0 : decide (a0 < 65534) = true := decide_eq_true c8
                clear c8
                obtain rfl := Option.some.inj H
                go_enter Tryd.func19, Tryd.ntmps19
                go_wp2
                go_ret
                exact ⟨by first | rfl | (simp; done) | exact congrArg Value.bool (nemp _) | exact congrArg Value.bool (emp _) | (simp [*]; done), by repeat (first | exact Drawn0.refl _ | apply Drawn0.step)⟩
              · rw [if_neg c8] at H
                have c8b0 : decide (a0 < 65534) = false := decide_eq_false c8
                clear c8
                by_cases c9 : a0 > 65535
                · rw [if_pos c9] at H
                  have c9b0 : decide (65535 < a0) = true := decide_eq_true c9
                  clear c9
                  obtain rfl := Option.some.inj H
                  go_enter Tryd.func19, Tryd.ntmps19
                  go_wp2
                  go_ret
                  exact ⟨by first | rfl | (simp; done) | exact congrArg Value.bool (nemp _) | exact congrArg Value.bool (emp _) | (simp [*]; done), by repeat (first | exact Drawn0.refl _ | apply Drawn0.step)⟩
                · rw [if_neg c9] at H
                  have c9b0 : decide (65535 < a0) = false := decide_eq_false c9
                  clear c9
                  obtain rfl := Option.some.inj H
                  go_enter Tryd.func19, Tryd.ntmps19
                  go_wp2
                  go_ret
                  exact ⟨by first | rfl | (simp; done) | exact congrArg Value.bool (nemp _) | exact congrArg Value.bool (emp _) | (simp [*]; done), by repeat (first | exact Drawn0.refl _ | apply Drawn0.step)⟩
            · rw [if_neg c7] at H
              have c7b0 : decide (57343 < a0) = false := decide_eq_false c7
              clear c7
              by_cases c10 : a0 > 65535
              · rw [if_pos c10] at H
                have c10b0 : decide (65535 < a0) = true := decide_eq_true c10
                clear c10
                obtain rfl := Option.some.inj H
                go_enter Tryd.func19, Tryd.ntmps19
                go_wp2
                go_ret
                exact ⟨by first | rfl | (simp; done) | exact congrArg Value.bool (nemp _) | exact congrArg Value.bool (emp _) | (simp [*]; done), by repeat (first | exact Drawn0.refl _ | apply Drawn0.step)⟩
              · rw [if_neg c10] at H
                have c10b0 : decide (65535 < a0) = false := decide_eq_false c10
                clear c10
                obtain rfl := Option.some.inj H
                go_enter Tryd.func19, Tryd.ntmps19
                go_wp2
                go_ret
                exact ⟨by first | rfl | (simp; done) | exact congrArg Value.bool (nemp _) | exact congrArg Value.bool (emp _) | (simp [*]; done), by repeat (first | exact Drawn0.refl _ | apply Drawn0.step)⟩
        · rw [if_neg c5] at H
          have c5b0 : decide (32 ≤ a0) = false := decide_eq_false c5
          clear c5
          by_cases c11 : a0 > 57343
          · rw [if_pos c11] at H
            have c11b0 : decide (57343 < a0) = true := decide_eq_true c11
            clear c11
            by_cases c12 : a0 < 65534
            · rw [if_pos c12] at H
              have c12b0 : decide (a0 < 65534) = true := decide_eq_true c12
              clear c12
              obtain rfl := Option.some.inj H
              go_enter Tryd.func19, Tryd.ntmps19
              go_wp2
              go_ret
              exact ⟨by first | rfl | (simp; done) | exact congrArg Value.bool (nemp _) | exact congrArg Value.bool (emp _) | (simp [*]; done), by repeat (first | exact Drawn0.refl _ | apply Drawn0.step)⟩
            · rw [if_neg c12] at H
              have c12b0 : decide (a0 < 65534) = false := decide_eq_false c12
              clear c12
              by_cases c13 : a0 > 65535
              · rw [if_pos c13] at H
                have c13b0 : decide (65535 < a0) = true := decide_eq_true c13
                clear c13
                obtain rfl := Option.some.inj H
                go_enter Tryd.func19, Tryd.ntmps19
                go_wp2
                go_ret
                exact ⟨by first | rfl | (simp; done) | exact congrArg Value.bool (nemp _) | exact congrArg Value.bool (emp _) | (simp [*]; done), by repeat (first | exact Drawn0.refl _ | apply Drawn0.step)⟩
              · rw [if_neg c13] at H
                have c13b0 : decide (65535 < a0) = false := decide_eq_false c13
                clear c13
                obtain rfl := Option.some.inj H
                go_enter Tryd.func19, Tryd.ntmps19
                go_wp2
                go_ret
                exact ⟨by first | rfl | (simp; done) | exact congrArg Value.bool (nemp _) | exact congrArg Value.bool (emp _) | (simp [*]; done), by repeat (first | exact Drawn0.refl _ | apply Drawn0.step)⟩
          · rw [if_neg c11] at H
            have c11b0 : decide (57343 < a0) = false := decide_eq_false c11
            clear c11
            by_cases c14 : a0 > 65535
            · rw [if_pos c14] at H
              have c14b0 : decide (65535 < a0) = true := decide_eq_true c14
              clear c14
              obtain rfl := Option.some.inj H
              go_enter Tryd.func19, Tryd.ntmps19
              go_wp2
              go_ret
              exact ⟨by first | rfl | (simp; done) | exact congrArg Value.bool (nemp _) | exact congrArg Value.bool (emp _) | (simp [*]; done), by repeat (first | exact Drawn0.refl _ | apply Drawn0.step)⟩
            · rw [if_neg c14] at H
              have c14b0 : decide (65535 < a0) = false := decide_eq_false c14
              clear c14
              obtain rfl := Option.some.inj H
              go_enter Tryd.func19, Tryd.ntmps19
              go_wp2
              go_ret
              exact ⟨by first | rfl | (simp; done) | exact congrArg Value.bool (nemp _) | exact congrArg Value.bool (emp _) | (simp [*]; done), by repeat (first | exact Drawn0.refl _ | apply Drawn0.step)⟩

end Go.Proofs.YtjijbncheikagaaDoor.Q
