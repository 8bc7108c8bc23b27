-- Written by hookprint.py (wip/) of this session: the kit's print with hand-proved functions beside it. Not trusted: Lean checks it.
import Derived.Test.YtjijbncheikagaaDoorQ0
import Derived.Test.YtjijbncheikagaaDoorQ3
import Derived.Test.YtjijbncheikagaaDoorQ4
import Derived.Test.YtjijbncheikagaaDoorQ7
namespace Go.Proofs.YtjijbncheikagaaDoor.Q
open Go.RowKit Go.Lib Go.Proofs.YtjijbncheikagaaDoorX Go.Proofs.YtjijbncheikagaaDoorW.PrintWords Go.Proofs.YtjijbncheikagaaDoorW.PrintLast Go.Proofs.YtjijbncheikagaaDoorW.PrintMore
attribute [local go_sem] max2_int min2_int max_two min_two max_three min_three max_four min_four   -- for this text's walks alone
set_option linter.unusedVariables false
set_option linter.unusedSimpArgs false

/-! ### cardexlaw02_EscapeTells: function 3 -/
def cardexlaw02_EscapeTells.f (k : Nat) (a0 : ByteArray) : Option (Bool) := if (a0.size : Int) > 1000 then ((cardexlaw02_awake.f).bind fun t191 => (if t191 = true then (some true) else (some false))) else ((escape_Back.f a0).bind fun bt192 => ((cardexref01_Back.f k a0).bind fun bt194 => ((cardexlaw02_awake.f).bind fun t196 => (if t196 = true then ((escape_Text.f a0).bind fun t197 => ((cardexref01_Escape.f k a0).bind fun t198 => (if t197.toList = t198.toList then (if bt192.1.toList = bt194.1.toList then (if bt192.2 = bt194.2 then (some true) else (some false)) else (some false)) else (some false)))) else (some false)))))
theorem cardexlaw02_EscapeTells.mono : ∀ a0 k, LeO (cardexlaw02_EscapeTells.f k a0) (cardexlaw02_EscapeTells.f (k + 1) a0) := by
  intro a0 k
  unfold cardexlaw02_EscapeTells.f
  repeat' first
      | (with_reducible exact cardexref01_Back.mono _ _)
      | (with_reducible exact cardexref01_Escape.mono _ _)
      | (with_reducible exact LeO.refl _)
      | (with_reducible exact LeO.none _)
      | (with_reducible refine LeO.ite ?_ ?_)
      | (with_reducible refine LeO.bind ?_ (fun _ => ?_))
      | exact cardexref01_Back.mono _ _
      | exact cardexref01_Escape.mono _ _
      | exact LeO.none _
      | refine LeO.ite ?_ ?_
      | refine LeO.bind ?_ (fun _ => ?_)
set_option maxHeartbeats 8000000 in
set_option maxRecDepth 100000 in
theorem cardexlaw02_EscapeTells.calls (k : Nat) (a0 : ByteArray) (r : Bool) (w : World) (h : cardexlaw02_EscapeTells.f k a0 = some r) (hT : Tabs w) (hlaw : r = true) :
    Calls Tryd.prog 3 #[.string a0] w fun e w' => e = .returned (.bool r) ∧ Below w.heap.size w w' := by
  have HT := Aside0.mk hT
  clear hT
  have HLAW := Aside0.mk hlaw
  clear hlaw
  have HB := Aside0.mk (Below.refl w.heap.size w)
  have H : (if (a0.size : Int) > 1000 then ((cardexlaw02_awake.f).bind fun t191 => (if t191 = true then (some true) else (some false))) else ((escape_Back.f a0).bind fun bt192 => ((cardexref01_Back.f k a0).bind fun bt194 => ((cardexlaw02_awake.f).bind fun t196 => (if t196 = true then ((escape_Text.f a0).bind fun t197 => ((cardexref01_Escape.f k a0).bind fun t198 => (if t197.toList = t198.toList then (if bt192.1.toList = bt194.1.toList then (if bt192.2 = bt194.2 then (some true) else (some false)) else (some false)) else (some false)))) else (some false)))))) = some r := h
  clear h
  by_cases c2 : (a0.size : Int) > 1000
  · rw [if_pos c2] at H
    have c2b0 : decide (1000 < (a0.size : Int)) = true := decide_eq_true c2
    have c2b1 : decide (1000 < a0.size) = true := decide_eq_true (by omega)
    clear c2
    replace H := Option.bind_eq_some_iff.mp H
    obtain ⟨t191, A30, H⟩ := H
    replace H : (if t191 = true then (some true) else (some false)) = some r := H
    have A3 := Aside0.mk A30
    clear A30
    by_cases c4 : t191 = true
    · subst c4
      have H1 : (some true) = some r := by rw [if_pos rfl] at H; exact H
      clear H
      have H := H1
      clear H1
      obtain rfl := Option.some.inj H
      go_enter Tryd.func3, Tryd.ntmps3
      go_wp2_with (first | ((with_reducible refine gate_callee (f := 12) rfl ?_); refine goesL_ (some 10) rfl rfl Tryd.func12 (by kernel_rfl) rfl #[] rfl (by (try simp only [List.map_toArray, List.map_cons, List.map_nil]); first | done | rfl | (simp only [List.length_drop, List.length_take]; rfl)) ?_; (with_reducible refine (cardexlaw02_awake.calls  true _ A3.out (tabs_b HT.out (by repeat (first | (with_reducible first | exact HB.out | apply below_alloc | apply pw_below_drewN | apply below_drew1) | exact HB.out)))).mono ?_); rintro e w5 ⟨rfl, hb⟩; refine ⟨_, rfl, ?_⟩; have n0_ := Aside0.mk (below_step (by repeat (first | (with_reducible first | exact HB.out | apply below_alloc | apply pw_below_drewN | apply below_drew1) | exact HB.out)) hb); clear HB; have HB := n0_; clear n0_; (try clear hb); (try clear hb2); (try clear hk); (try clear hi)))
      go_ret
      exact ⟨by first | rfl | (simp [errW_none, errW_some] <;> rfl) | (simp [*, errW_none, errW_some] <;> rfl), by repeat (first | (with_reducible first | exact HB.out | apply below_alloc | apply pw_below_drewN | apply below_drew1) | exact HB.out)⟩
    · replace c4 := Bool.eq_false_iff.mpr c4
      subst c4
      have H1 : (some false) = some r := by rw [if_neg (show ¬ (false = true) by decide)] at H; exact H
      clear H
      have H := H1
      clear H1
      exact absurd ((Option.some.inj H).trans HLAW.out) (by decide)
  · rw [if_neg c2] at H
    have c2b0 : decide (1000 < (a0.size : Int)) = false := decide_eq_false c2
    have c2b1 : decide (1000 < a0.size) = false := decide_eq_false (by omega)
    clear c2
    replace H := Option.bind_eq_some_iff.mp H
    obtain ⟨⟨t192, t193⟩, A60, H⟩ := H
    replace H : ((cardexref01_Back.f k a0).bind fun bt194 => ((cardexlaw02_awake.f).bind fun t196 => (if t196 = true then ((escape_Text.f a0).bind fun t197 => ((cardexref01_Escape.f k a0).bind fun t198 => (if t197.toList = t198.toList then (if t192.toList = bt194.1.toList then (if t193 = bt194.2 then (some true) else (some false)) else (some false)) else (some false)))) else (some false)))) = some r := H
    have A6 := Aside0.mk A60
    clear A60
    replace H := Option.bind_eq_some_iff.mp H
    obtain ⟨⟨t194, t195⟩, A70, H⟩ := H
    replace H : ((cardexlaw02_awake.f).bind fun t196 => (if t196 = true then ((escape_Text.f a0).bind fun t197 => ((cardexref01_Escape.f k a0).bind fun t198 => (if t197.toList = t198.toList then (if t192.toList = t194.toList then (if t193 = t195 then (some true) else (some false)) else (some false)) else (some false)))) else (some false))) = some r := H
    have A7 := Aside0.mk A70
    clear A70
    replace H := Option.bind_eq_some_iff.mp H
    obtain ⟨t196, A80, H⟩ := H
    replace H : (if t196 = true then ((escape_Text.f a0).bind fun t197 => ((cardexref01_Escape.f k a0).bind fun t198 => (if t197.toList = t198.toList then (if t192.toList = t194.toList then (if t193 = t195 then (some true) else (some false)) else (some false)) else (some false)))) else (some false)) = some r := H
    have A8 := Aside0.mk A80
    clear A80
    by_cases c9 : t196 = true
    · subst c9
      have H1 : ((escape_Text.f a0).bind fun t197 => ((cardexref01_Escape.f k a0).bind fun t198 => (if t197.toList = t198.toList then (if t192.toList = t194.toList then (if t193 = t195 then (some true) else (some false)) else (some false)) else (some false)))) = some r := by rw [if_pos rfl] at H; exact H
      clear H
      have H := H1
      clear H1
      replace H := Option.bind_eq_some_iff.mp H
      obtain ⟨t197, A100, H⟩ := H
      replace H : ((cardexref01_Escape.f k a0).bind fun t198 => (if t197.toList = t198.toList then (if t192.toList = t194.toList then (if t193 = t195 then (some true) else (some false)) else (some false)) else (some false))) = some r := H
      have A10 := Aside0.mk A100
      clear A100
      replace H := Option.bind_eq_some_iff.mp H
      obtain ⟨t198, A110, H⟩ := H
      replace H : (if t197.toList = t198.toList then (if t192.toList = t194.toList then (if t193 = t195 then (some true) else (some false)) else (some false)) else (some false)) = some r := H
      have A11 := Aside0.mk A110
      clear A110
      by_cases c12 : t197.toList = t198.toList
      · rw [if_pos c12] at H
        have c12b0 : (t197.toList == t198.toList) = true := beq_iff_eq.mpr c12
        have c12b1 : (t197.toList != t198.toList) = false := bne_eq_false_iff_eq.mpr c12
        clear c12
        by_cases c13 : t192.toList = t194.toList
        · rw [if_pos c13] at H
          have c13b0 : (t192.toList == t194.toList) = true := beq_iff_eq.mpr c13
          have c13b1 : (t192.toList != t194.toList) = false := bne_eq_false_iff_eq.mpr c13
          clear c13
          by_cases c14 : t193 = t195
          · rw [if_pos c14] at H
            have c14b0 : (t193 == t195) = true := beq_iff_eq.mpr c14
            have c14b1 : (t193 != t195) = false := bne_eq_false_iff_eq.mpr c14
            clear c14
            obtain rfl := Option.some.inj H
            go_enter Tryd.func3, Tryd.ntmps3
            go_wp2_with (first | ((with_reducible refine gate_callee (f := 13) rfl ?_); refine goesL_ (some 13) rfl rfl Tryd.func13 (by kernel_rfl) rfl #[.string a0] rfl (by (try simp only [List.map_toArray, List.map_cons, List.map_nil]); first | done | rfl | (simp only [List.length_drop, List.length_take]; rfl)) ?_; (with_reducible refine (escape_Back.calls a0 t192 t193 _ A6.out (tabs_b HT.out (by repeat (first | (with_reducible first | exact HB.out | apply below_alloc | apply pw_below_drewN | apply below_drew1) | exact HB.out)))).mono ?_); rintro e w15 ⟨rfl, hb⟩; refine ⟨_, rfl, ?_⟩; have n0_ := Aside0.mk (below_step (by repeat (first | (with_reducible first | exact HB.out | apply below_alloc | apply pw_below_drewN | apply below_drew1) | exact HB.out)) hb); clear HB; have HB := n0_; clear n0_; (try clear hb); (try clear hb2); (try clear hk); (try clear hi)) | ((with_reducible refine gate_callee (f := 14) rfl ?_); refine goesL_ (some 18) rfl rfl Tryd.func14 (by kernel_rfl) rfl #[.string a0] rfl (by (try simp only [List.map_toArray, List.map_cons, List.map_nil]); first | done | rfl | (simp only [List.length_drop, List.length_take]; rfl)) ?_; (with_reducible refine (cardexref01_Back.calls k a0 t194 t195 _ A7.out).mono ?_); rintro e w16 ⟨rfl, hb⟩; refine ⟨_, rfl, ?_⟩; have n0_ := Aside0.mk (below_step (by repeat (first | (with_reducible first | exact HB.out | apply below_alloc | apply pw_below_drewN | apply below_drew1) | exact HB.out)) hb); clear HB; have HB := n0_; clear n0_; (try clear hb); (try clear hb2); (try clear hk); (try clear hi)) | ((with_reducible refine gate_callee (f := 12) rfl ?_); refine goesL_ (some 21) rfl rfl Tryd.func12 (by kernel_rfl) rfl #[] rfl (by (try simp only [List.map_toArray, List.map_cons, List.map_nil]); first | done | rfl | (simp only [List.length_drop, List.length_take]; rfl)) ?_; (with_reducible refine (cardexlaw02_awake.calls  true _ A8.out (tabs_b HT.out (by repeat (first | (with_reducible first | exact HB.out | apply below_alloc | apply pw_below_drewN | apply below_drew1) | exact HB.out)))).mono ?_); rintro e w17 ⟨rfl, hb⟩; refine ⟨_, rfl, ?_⟩; have n0_ := Aside0.mk (below_step (by repeat (first | (with_reducible first | exact HB.out | apply below_alloc | apply pw_below_drewN | apply below_drew1) | exact HB.out)) hb); clear HB; have HB := n0_; clear n0_; (try clear hb); (try clear hb2); (try clear hk); (try clear hi)) | (go_at_call 15; (with_reducible refine (escape_Text.calls a0 t197 _ A10.out).mono ?_); rintro e w18 ⟨rfl, hb⟩; have n0_ := Aside0.mk (below_step (by repeat (first | (with_reducible first | exact HB.out | apply below_alloc | apply pw_below_drewN | apply below_drew1) | exact HB.out)) hb); clear HB; have HB := n0_; clear n0_; (try clear hb); (try clear hb2); (try clear hk); (try clear hi)) | (go_at_call 16; (with_reducible refine (cardexref01_Escape.calls k a0 t198 _ A11.out).mono ?_); rintro e w' ⟨rfl, ⟨nd, rfl⟩⟩))
            go_ret
            exact ⟨by first | rfl | (simp [errW_none, errW_some] <;> rfl) | (simp [*, errW_none, errW_some] <;> rfl), by repeat (first | (with_reducible first | exact HB.out | apply below_alloc | apply pw_below_drewN | apply below_drew1) | exact HB.out)⟩
          · rw [if_neg c14] at H
            have c14b0 : (t193 == t195) = false := beq_eq_false_iff_ne.mpr c14
            have c14b1 : (t193 != t195) = true := bne_iff_ne.mpr c14
            exact absurd ((Option.some.inj H).trans HLAW.out) (by decide)
        · rw [if_neg c13] at H
          have c13b0 : (t192.toList == t194.toList) = false := beq_eq_false_iff_ne.mpr c13
          have c13b1 : (t192.toList != t194.toList) = true := bne_iff_ne.mpr c13
          exact absurd ((Option.some.inj H).trans HLAW.out) (by decide)
      · rw [if_neg c12] at H
        have c12b0 : (t197.toList == t198.toList) = false := beq_eq_false_iff_ne.mpr c12
        have c12b1 : (t197.toList != t198.toList) = true := bne_iff_ne.mpr c12
        exact absurd ((Option.some.inj H).trans HLAW.out) (by decide)
    · replace c9 := Bool.eq_false_iff.mpr c9
      subst c9
      have H1 : (some false) = some r := by rw [if_neg (show ¬ (false = true) by decide)] at H; exact H
      clear H
      have H := H1
      clear H1
      exact absurd ((Option.some.inj H).trans HLAW.out) (by decide)

end Go.Proofs.YtjijbncheikagaaDoor.Q
