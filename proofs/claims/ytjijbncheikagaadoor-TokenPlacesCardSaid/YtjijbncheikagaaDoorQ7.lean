-- Written by hookprint.py (wip/) of this session: the kit's print with hand-proved functions beside it. Not trusted: Lean checks it.
import Derived.Test.YtjijbncheikagaaDoorQ0
import Derived.Test.YtjijbncheikagaaDoorQ5
import Derived.Test.YtjijbncheikagaaDoorQ6
namespace Go.Proofs.YtjijbncheikagaaDoor.Q
open Go.RowKit Go.Lib Go.Proofs.YtjijbncheikagaaDoorX Go.Proofs.YtjijbncheikagaaDoorW.PrintWords Go.Proofs.YtjijbncheikagaaDoorW.PrintLast Go.Proofs.YtjijbncheikagaaDoorW.PrintMore
set_option linter.unusedVariables false
set_option linter.unusedSimpArgs false
mutual
def cardexlaw08_TokenPlaces.l0 : Nat → ByteArray → List (S39) → Int → Option (Bool)
  | 0, _, _, _ => none
  | k + 1, x0, x3, x6 => if x6 < (x3.length : Int) then (if 0 ≤ x6 then (if ((rd_T39 x3 x6).f1) < 0 then (cardexlaw08_TokenPlaces.j1 k x0 x3 x6 ((rd_T39 x3 x6).f1) true) else (if ((rd_T39 x3 x6).f1) ≥ (x0.size : Int) then (cardexlaw08_TokenPlaces.j1 k x0 x3 x6 ((rd_T39 x3 x6).f1) true) else (if x6 > 0 then (if 0 ≤ (wrap64 (x6 - 1)) then (if (wrap64 (x6 - 1)) < (x3.length : Int) then (if ((rd_T39 x3 x6).f1) ≤ ((rd_T39 x3 (wrap64 (x6 - 1))).f1) then (cardexlaw08_TokenPlaces.j1 k x0 x3 x6 ((rd_T39 x3 x6).f1) true) else (if 0 ≤ ((rd_T39 x3 x6).f1) then (if ((rd_T39 x3 x6).f1) < (x0.size : Int) then (if (bt x0 ((rd_T39 x3 x6).f1)) = 60 then (if ((rd_T39 x3 x6).f0) = 3 then (cardexlaw08_TokenPlaces.j1 k x0 x3 x6 ((rd_T39 x3 x6).f1) true) else (cardexlaw08_TokenPlaces.j1 k x0 x3 x6 ((rd_T39 x3 x6).f1) false)) else (if ((rd_T39 x3 x6).f0) = 3 then (cardexlaw08_TokenPlaces.j1 k x0 x3 x6 ((rd_T39 x3 x6).f1) false) else (cardexlaw08_TokenPlaces.j1 k x0 x3 x6 ((rd_T39 x3 x6).f1) true))) else (none)) else (none))) else (none)) else (none)) else (if 0 ≤ ((rd_T39 x3 x6).f1) then (if ((rd_T39 x3 x6).f1) < (x0.size : Int) then (if (bt x0 ((rd_T39 x3 x6).f1)) = 60 then (if ((rd_T39 x3 x6).f0) = 3 then (cardexlaw08_TokenPlaces.j1 k x0 x3 x6 ((rd_T39 x3 x6).f1) true) else (cardexlaw08_TokenPlaces.j1 k x0 x3 x6 ((rd_T39 x3 x6).f1) false)) else (if ((rd_T39 x3 x6).f0) = 3 then (cardexlaw08_TokenPlaces.j1 k x0 x3 x6 ((rd_T39 x3 x6).f1) false) else (cardexlaw08_TokenPlaces.j1 k x0 x3 x6 ((rd_T39 x3 x6).f1) true))) else (none)) else (none))))) else (none)) else ((cardexlaw08_awake.f k).bind fun t308 => (if t308 = true then (some true) else (some false)))
def cardexlaw08_TokenPlaces.j1 : Nat → ByteArray → List (S39) → Int → Int → Bool → Option (Bool)
  | 0, _, _, _, _, _ => none
  | k + 1, x0, x3, x6, x7, x74 => if x74 = true then (some false) else (if 0 ≤ x7 then (if x7 ≤ (x0.size : Int) then ((token_Tokens.f k (x0.extract (x7 : Int).toNat x0.size)).bind fun bt314 => (if (bt314.1.length : Int) = 0 then (some false) else (if bt314.2.2 = 0 then (if 0 < (bt314.1.length : Int) then (if 0 ≤ x6 then (if x6 < (x3.length : Int) then (if ((rd_T39 bt314.1 0).f0) = ((rd_T39 x3 x6).f0) then (if ((rd_T39 bt314.1 0).f2).toList = ((rd_T39 x3 x6).f2).toList then (if ((rd_T39 bt314.1 0).f3).toList = ((rd_T39 x3 x6).f3).toList then (if ((rd_T39 bt314.1 0).f1) = 0 then (cardexlaw08_TokenPlaces.l0 k x0 x3 (wrap64 (x6 + 1))) else (some false)) else (some false)) else (some false)) else (some false)) else (none)) else (none)) else (none)) else (some false)))) else (none)) else (none))
end
def cardexlaw08_TokenPlaces.f (k : Nat) (a0 : ByteArray) : Option (Bool) := if (a0.size : Int) > 4000 then ((cardexlaw08_awake.f k).bind fun t301 => (if t301 = true then (some true) else (some false))) else ((token_Tokens.f k a0).bind fun bt302 => (if bt302.2.2 = 0 then (cardexlaw08_TokenPlaces.l0 k a0 bt302.1 0) else ((cardexlaw08_awake.f k).bind fun t307 => (if t307 = true then (if (bt302.1.length : Int) = 0 then (some true) else (some false)) else (some false)))))
set_option maxHeartbeats 8000000 in
set_option maxRecDepth 100000 in
theorem cardexlaw08_TokenPlaces.calls (k : Nat) (a0 : ByteArray) (r : Bool) (w : World) (h : cardexlaw08_TokenPlaces.f k a0 = some r) (hT : Tabs w) (hlaw : r = true) :
    Calls Tryd.prog 9 #[.string a0] w fun e w' => e = .returned (.bool r) ∧ Below w.heap.size w w' := by
  have HT := Aside0.mk hT
  clear hT
  have HLAW := Aside0.mk hlaw
  clear hlaw
  have HB := Aside0.mk (Below.refl w.heap.size w)
  have H : (if (a0.size : Int) > 4000 then ((cardexlaw08_awake.f k).bind fun t301 => (if t301 = true then (some true) else (some false))) else ((token_Tokens.f k a0).bind fun bt302 => (if bt302.2.2 = 0 then (cardexlaw08_TokenPlaces.l0 k a0 bt302.1 0) else ((cardexlaw08_awake.f k).bind fun t307 => (if t307 = true then (if (bt302.1.length : Int) = 0 then (some true) else (some false)) else (some false)))))) = some r := h
  clear h
  by_cases c2 : (a0.size : Int) > 4000
  · rw [if_pos c2] at H
    have c2b0 : decide (4000 < (a0.size : Int)) = true := decide_eq_true c2
    have c2b1 : decide (4000 < a0.size) = true := decide_eq_true (by omega)
    clear c2
    replace H := Option.bind_eq_some_iff.mp H
    obtain ⟨t301, A30, H⟩ := H
    replace H : (if t301 = true then (some true) else (some false)) = some r := H
    have A3 := Aside0.mk A30
    clear A30
    by_cases c4 : t301 = true
    · subst c4
      have H1 : (some true) = some r := by rw [if_pos rfl] at H; exact H
      clear H
      have H := H1
      clear H1
      obtain rfl := Option.some.inj H
      go_enter Tryd.func9, Tryd.ntmps9
      go_wp2_with (first | (go_at_call 20; (with_reducible refine (cardexlaw08_awake.calls k  true _ A3.out (tabs_b HT.out (by repeat (first | (with_reducible first | exact HB.out | apply below_alloc | apply pw_below_drewN | apply below_drew1) | exact HB.out)))).mono ?_); rintro e w5 ⟨rfl, hb⟩; have n0_ := Aside0.mk (below_step (by repeat (first | (with_reducible first | exact HB.out | apply below_alloc | apply pw_below_drewN | apply below_drew1) | exact HB.out)) hb); clear HB; have HB := n0_; clear n0_; (try clear hb); (try clear hb2); (try clear hk); (try clear hi)))
      repeat (go_quiet (first | (go_at_call 20; (with_reducible refine (cardexlaw08_awake.calls k  true _ A3.out (tabs_b HT.out (by repeat (first | (with_reducible first | exact HB.out | apply below_alloc | apply pw_below_drewN | apply below_drew1) | exact HB.out)))).mono ?_); rintro e w5 ⟨rfl, hb⟩; have n0_ := Aside0.mk (below_step (by repeat (first | (with_reducible first | exact HB.out | apply below_alloc | apply pw_below_drewN | apply below_drew1) | exact HB.out)) hb); clear HB; have HB := n0_; clear n0_; (try clear hb); (try clear hb2); (try clear hk); (try clear hi))); try go_wp2_with (first | (go_at_call 20; (with_reducible refine (cardexlaw08_awake.calls k  true _ A3.out (tabs_b HT.out (by repeat (first | (with_reducible first | exact HB.out | apply below_alloc | apply pw_below_drewN | apply below_drew1) | exact HB.out)))).mono ?_); rintro e w5 ⟨rfl, hb⟩; have n0_ := Aside0.mk (below_step (by repeat (first | (with_reducible first | exact HB.out | apply below_alloc | apply pw_below_drewN | apply below_drew1) | exact HB.out)) hb); clear HB; have HB := n0_; clear n0_; (try clear hb); (try clear hb2); (try clear hk); (try clear hi))))
      go_ret
      exact ⟨by first | rfl | (simp only [nemp]; rfl) | (simp [errW_none, errW_some] <;> rfl) | (simp [*, errW_none, errW_some] <;> rfl), by repeat (first | (with_reducible first | exact HB.out | apply below_alloc | apply pw_below_drewN | apply below_drew1) | exact HB.out)⟩
    · replace c4 := Bool.eq_false_iff.mpr c4
      subst c4
      have H1 : (some false) = some r := by rw [if_neg (show ¬ (false = true) by decide)] at H; exact H
      clear H
      have H := H1
      clear H1
      exact absurd ((Option.some.inj H).trans HLAW.out) (by decide)
  · rw [if_neg c2] at H
    have c2b0 : decide (4000 < (a0.size : Int)) = false := decide_eq_false c2
    have c2b1 : decide (4000 < a0.size) = false := decide_eq_false (by omega)
    clear c2
    replace H := Option.bind_eq_some_iff.mp H
    obtain ⟨⟨t302, t303, t304⟩, A60, H⟩ := H
    replace H : (if t304 = 0 then (cardexlaw08_TokenPlaces.l0 k a0 t302 0) else ((cardexlaw08_awake.f k).bind fun t307 => (if t307 = true then (if (t302.length : Int) = 0 then (some true) else (some false)) else (some false)))) = some r := H
    have A6 := Aside0.mk A60
    clear A60
    by_cases c7 : t304 = 0
    · rw [if_pos c7] at H
      have c7b0 : (t304 == 0) = true := beq_iff_eq.mpr c7
      have c7b1 : (t304 != 0) = false := bne_eq_false_iff_eq.mpr c7
      clear c7
      have H' := Aside0.mk H
      clear H
      go_enter Tryd.func9, Tryd.ntmps9
      go_wp2_with (first | (go_at_call 21; (with_reducible refine (token_Tokens.calls k a0 t302 t303 t304 _ A6.out (tabs_b HT.out (by repeat (first | (with_reducible first | exact HB.out | apply below_alloc | apply pw_below_drewN | apply below_drew1) | exact HB.out)))).mono ?_); rintro e w8 ⟨v305, rfl, ho0, hb⟩; have n0_ := Aside0.mk (Kd.S_lower ho0 (below_size (by repeat (first | (with_reducible first | exact HB.out | apply below_alloc | apply pw_below_drewN | apply below_drew1) | exact HB.out)))); have n1_ := Aside0.mk (below_step (by repeat (first | (with_reducible first | exact HB.out | apply below_alloc | apply pw_below_drewN | apply below_drew1) | exact HB.out)) hb); clear HB; have HO306 := n0_; have HB := n1_; clear n0_ n1_; (try clear hb); (try clear hb2); (try clear hk); (try clear hi); (try clear ho0)))
      repeat (go_quiet (first | (go_at_call 21; (with_reducible refine (token_Tokens.calls k a0 t302 t303 t304 _ A6.out (tabs_b HT.out (by repeat (first | (with_reducible first | exact HB.out | apply below_alloc | apply pw_below_drewN | apply below_drew1) | exact HB.out)))).mono ?_); rintro e w8 ⟨v305, rfl, ho0, hb⟩; have n0_ := Aside0.mk (Kd.S_lower ho0 (below_size (by repeat (first | (with_reducible first | exact HB.out | apply below_alloc | apply pw_below_drewN | apply below_drew1) | exact HB.out)))); have n1_ := Aside0.mk (below_step (by repeat (first | (with_reducible first | exact HB.out | apply below_alloc | apply pw_below_drewN | apply below_drew1) | exact HB.out)) hb); clear HB; have HO306 := n0_; have HB := n1_; clear n0_ n1_; (try clear hb); (try clear hb2); (try clear hk); (try clear hi); (try clear ho0))); try go_wp2_with (first | (go_at_call 21; (with_reducible refine (token_Tokens.calls k a0 t302 t303 t304 _ A6.out (tabs_b HT.out (by repeat (first | (with_reducible first | exact HB.out | apply below_alloc | apply pw_below_drewN | apply below_drew1) | exact HB.out)))).mono ?_); rintro e w8 ⟨v305, rfl, ho0, hb⟩; have n0_ := Aside0.mk (Kd.S_lower ho0 (below_size (by repeat (first | (with_reducible first | exact HB.out | apply below_alloc | apply pw_below_drewN | apply below_drew1) | exact HB.out)))); have n1_ := Aside0.mk (below_step (by repeat (first | (with_reducible first | exact HB.out | apply below_alloc | apply pw_below_drewN | apply below_drew1) | exact HB.out)) hb); clear HB; have HO306 := n0_; have HB := n1_; clear n0_ n1_; (try clear hb); (try clear hb2); (try clear hk); (try clear hi); (try clear ho0))))
      go_loopg [6] k (fun kq v6 w' => ∃ (x6_1 : Int), v6 = .int .i64 x6_1 ∧ Aside0 (cardexlaw08_TokenPlaces.l0 kq a0 t302 x6_1 = some r) ∧ Aside0 (kq ≤ k) ∧ Aside0 (Kd.S k39 39 w' w.heap.size (fun _ => True) v305 t302) ∧ Aside0 (Below w.heap.size w w'))
      case atStart => exact ⟨(0), (by first | rfl | (simp; done) | exact congrArg Value.bool (nemp _) | exact congrArg Value.bool (emp _) | (simp [*]; done)), H', ⟨Nat.le_refl _⟩, ⟨by (with_reducible repeat (first | apply Kd.S_alloc | apply Kd.S_drewN | apply Kd.S_drew)); exact HO306.out⟩, ⟨by repeat (first | (with_reducible first | exact HB.out | apply below_alloc | apply pw_below_drewN | apply below_drew1) | exact HB.out)⟩⟩
      case round =>
        clear H'
        try clear c2
        try clear c2b0
        try clear c2b1
        try clear p2
        try clear c4
        try clear c7
        try clear c7b0
        try clear c7b1
        obtain ⟨x6_1, rfl, HA, HK1, HO_3, HB⟩ := hrel
        cases gk with
        | zero => exact absurd HA.out (by simp [cardexlaw08_TokenPlaces.l0])
        | succ k1 =>
          have H := HA.out
          clear HA
          simp only [cardexlaw08_TokenPlaces.l0] at H
          by_cases c9 : x6_1 < (t302.length : Int)
          · rw [if_pos c9] at H
            have c9b0 : decide (x6_1 < (t302.length : Int)) = true := decide_eq_true c9
            clear c9
            by_cases c10 : 0 ≤ x6_1
            · rw [if_pos c10] at H
              have c10b0 : decide (0 ≤ x6_1) = true := decide_eq_true c10
              clear c10
              have HC11 := Aside0.mk H
              clear H
              obtain ⟨Ao12, co12, eo12⟩ := Kd.S_slice HO_3.out
              subst eo12
              have p309 : 0 ≤ (x6_1 : Int) := of_decide_eq_true (by first | (with_reducible assumption) | assumption)
              have q309 : x6_1 < (t302.length : Int) := of_decide_eq_true (by first | (with_reducible assumption) | assumption)
              obtain ⟨ad309, A309_4, c309_4, e309, hx309_0, hx309_1, hx309_2, hx309_3, hx309_4, hx309_5, hl309_4, hi309_4⟩ := at_T39 (Kd.S_reads' HO_3.out).2.2 x6_1 p309 q309
              cases e309
              obtain ⟨ce309, hce309, hMe309, hcc309⟩ := Kd.S_get HO_3.out z39 x6_1 p309 (by first | exact q309 | exact of_decide_eq_true (by first | (with_reducible assumption) | assumption) | (have e_ := (Kd.S_reads' HO_3.out).1; omega))
              obtain ⟨ve309_4, rfl, ge309_4⟩ := k39_openM hMe309
              have hv309_4 := hcc309 4 _ rfl
              rw [add_field _ _ 4 (by omega)] at hv309_4
              replace hv309_4 := Option.some.inj (hv309_4.symm.trans hx309_4)
              rw [hv309_4] at ge309_4
              have HL309_4 := Aside0.mk (show Kd.R k41 41 _ _ _ _ ((rd_T39 t302 x6_1).f4) from ge309_4)
              clear hv309_4 ge309_4
              clear hcc309 hce309
              have HR309_4 := Aside0.mk hi309_4
              have HC309_4 := Aside0.mk hl309_4
              clear hi309_4 hl309_4
              replace p309 := eq_true p309
              replace q309 := eq_true q309
              go_upto_region 10 with (fail)
              repeat (go_quiet (fail); go_upto_region 10 with (fail))
              go_cut [74] (fun v74 wc => ∃ (kq : Nat) (x74_10 : Bool), v74 = .bool x74_10 ∧ Aside0 (cardexlaw08_TokenPlaces.j1 kq a0 t302 x6_1 ((rd_T39 t302 x6_1).f1) x74_10 = some r) ∧ Aside0 (kq ≤ k1) ∧ Aside0 (Kd.S k39 39 wc w.heap.size (fun _ => True) (.slice (some ad309) t302.length co12) t302) ∧ Aside0 (Kd.C k41 wc A309_4 ((rd_T39 t302 x6_1).f4).length ((rd_T39 t302 x6_1).f4)) ∧ Aside0 (Below w.heap.size w wc))
              case first =>
                have H := HC11.out
                clear HC11
                by_cases c13 : ((rd_T39 t302 x6_1).f1) < 0
                · rw [if_pos c13] at H
                  have c13b0 : decide (((rd_T39 t302 x6_1).f1) < 0) = true := decide_eq_true c13
                  clear c13
                  (first | rw [c13b0] | (simp only [i64_w, i32_w]; rw [c13b0]) | skip)
                  have H' := Aside0.mk H
                  clear H
                  go_wp2
                  repeat (go_quiet (fail); try go_wp2)
                  go_meet
                  case rel => exact ⟨_, (true), (by first | rfl | (simp; done) | exact congrArg Value.bool (nemp _) | exact congrArg Value.bool (emp _) | (simp [*]; done)), H', ⟨by have := HK1.out; first | omega | exact Nat.le_refl _⟩, ⟨by (with_reducible repeat (first | apply Kd.S_alloc | apply Kd.S_drewN | apply Kd.S_drew)); exact HO_3.out⟩, ⟨by repeat (first | (with_reducible exact HR309_4.out) | (with_reducible refine Kd.C_alloc ?_ _) | (with_reducible refine Kd.C_drewN ?_ _) | (with_reducible refine Kd.C_drew ?_) | exact HR309_4.out)⟩, ⟨by repeat (first | (with_reducible first | exact HB.out | apply below_alloc | apply pw_below_drewN | apply below_drew1) | exact HB.out)⟩⟩
                · rw [if_neg c13] at H
                  have c13b0 : decide (((rd_T39 t302 x6_1).f1) < 0) = false := decide_eq_false c13
                  clear c13
                  (first | rw [c13b0] | (simp only [i64_w, i32_w]; rw [c13b0]) | skip)
                  by_cases c14 : ((rd_T39 t302 x6_1).f1) ≥ (a0.size : Int)
                  · rw [if_pos c14] at H
                    have c14b0 : decide ((a0.size : Int) ≤ ((rd_T39 t302 x6_1).f1)) = true := decide_eq_true c14
                    clear c14
                    have H' := Aside0.mk H
                    clear H
                    go_wp2
                    repeat (go_quiet (fail); try go_wp2)
                    go_meet
                    case rel => exact ⟨_, (true), (by first | rfl | (simp; done) | exact congrArg Value.bool (nemp _) | exact congrArg Value.bool (emp _) | (simp [*]; done)), H', ⟨by have := HK1.out; first | omega | exact Nat.le_refl _⟩, ⟨by (with_reducible repeat (first | apply Kd.S_alloc | apply Kd.S_drewN | apply Kd.S_drew)); exact HO_3.out⟩, ⟨by repeat (first | (with_reducible exact HR309_4.out) | (with_reducible refine Kd.C_alloc ?_ _) | (with_reducible refine Kd.C_drewN ?_ _) | (with_reducible refine Kd.C_drew ?_) | exact HR309_4.out)⟩, ⟨by repeat (first | (with_reducible first | exact HB.out | apply below_alloc | apply pw_below_drewN | apply below_drew1) | exact HB.out)⟩⟩
                  · rw [if_neg c14] at H
                    have c14b0 : decide ((a0.size : Int) ≤ ((rd_T39 t302 x6_1).f1)) = false := decide_eq_false c14
                    clear c14
                    by_cases c15 : x6_1 > 0
                    · rw [if_pos c15] at H
                      have c15b0 : decide (0 < x6_1) = true := decide_eq_true c15
                      clear c15
                      obtain ⟨ji16, hji16⟩ : ∃ j_ : Int, (wrap64 (x6_1 - 1)) = j_ := ⟨_, rfl⟩
                      replace H : (if 0 ≤ (ji16) then (if (ji16) < (t302.length : Int) then (if ((rd_T39 t302 x6_1).f1) ≤ ((rd_T39 t302 (ji16)).f1) then (cardexlaw08_TokenPlaces.j1 k1 a0 t302 x6_1 ((rd_T39 t302 x6_1).f1) true) else (if 0 ≤ ((rd_T39 t302 x6_1).f1) then (if ((rd_T39 t302 x6_1).f1) < (a0.size : Int) then (if (bt a0 ((rd_T39 t302 x6_1).f1)) = 60 then (if ((rd_T39 t302 x6_1).f0) = 3 then (cardexlaw08_TokenPlaces.j1 k1 a0 t302 x6_1 ((rd_T39 t302 x6_1).f1) true) else (cardexlaw08_TokenPlaces.j1 k1 a0 t302 x6_1 ((rd_T39 t302 x6_1).f1) false)) else (if ((rd_T39 t302 x6_1).f0) = 3 then (cardexlaw08_TokenPlaces.j1 k1 a0 t302 x6_1 ((rd_T39 t302 x6_1).f1) false) else (cardexlaw08_TokenPlaces.j1 k1 a0 t302 x6_1 ((rd_T39 t302 x6_1).f1) true))) else (none)) else (none))) else (none)) else (none)) = some r := by first | (rw [hji16] at H; exact H) | (simp only [hji16] at H ⊢; exact H)
                      have hji16w : (IntKind.i64.wrap (x6_1 - 1)) = ji16 := (i64_w _).trans hji16
                      by_cases c17 : 0 ≤ (ji16)
                      · rw [if_pos c17] at H
                        have c17b0 : decide (0 ≤ (ji16)) = true := decide_eq_true c17
                        clear c17
                        by_cases c18 : (ji16) < (t302.length : Int)
                        · rw [if_pos c18] at H
                          have c18b0 : decide ((ji16) < (t302.length : Int)) = true := decide_eq_true c18
                          clear c18
                          by_cases c19 : ((rd_T39 t302 x6_1).f1) ≤ ((rd_T39 t302 (ji16)).f1)
                          · rw [if_pos c19] at H
                            have c19b0 : decide (((rd_T39 t302 x6_1).f1) ≤ ((rd_T39 t302 (ji16)).f1)) = true := decide_eq_true c19
                            clear c19
                            have H' := Aside0.mk H
                            clear H
                            have p310 : 0 ≤ ((ji16) : Int) := of_decide_eq_true (by first | (with_reducible assumption) | assumption)
                            have q310 : (ji16) < (t302.length : Int) := of_decide_eq_true (by first | (with_reducible assumption) | assumption)
                            obtain ⟨ad310, A310_4, c310_4, e310, hx310_0, hx310_1, hx310_2, hx310_3, hx310_4, hx310_5, hl310_4, hi310_4⟩ := at_T39 (Kd.S_reads' HO_3.out).2.2 (ji16) p310 q310
                            obtain rfl : ad309 = ad310 := (by injection e310)
                            obtain ⟨ce310, hce310, hMe310, hcc310⟩ := Kd.S_get HO_3.out z39 (ji16) p310 (by first | exact q310 | exact of_decide_eq_true (by first | (with_reducible assumption) | assumption) | (have e_ := (Kd.S_reads' HO_3.out).1; omega))
                            obtain ⟨ve310_4, rfl, ge310_4⟩ := k39_openM hMe310
                            have hv310_4 := hcc310 4 _ rfl
                            rw [add_field _ _ 4 (by omega)] at hv310_4
                            replace hv310_4 := Option.some.inj (hv310_4.symm.trans hx310_4)
                            rw [hv310_4] at ge310_4
                            have HL310_4 := Aside0.mk (show Kd.R k41 41 _ _ _ _ ((rd_T39 t302 (ji16)).f4) from ge310_4)
                            clear hv310_4 ge310_4
                            clear hcc310 hce310
                            have HR310_4 := Aside0.mk hi310_4
                            have HC310_4 := Aside0.mk hl310_4
                            clear hi310_4 hl310_4
                            replace p310 := eq_true p310
                            replace q310 := eq_true q310
                            go_wp2
                            repeat (go_quiet (fail); try go_wp2)
                            go_meet
                            case rel => exact ⟨_, (true), (by first | rfl | (simp; done) | exact congrArg Value.bool (nemp _) | exact congrArg Value.bool (emp _) | (simp [*]; done)), H', ⟨by have := HK1.out; first | omega | exact Nat.le_refl _⟩, ⟨by (with_reducible repeat (first | apply Kd.S_alloc | apply Kd.S_drewN | apply Kd.S_drew)); exact HO_3.out⟩, ⟨by repeat (first | (with_reducible exact HR309_4.out) | (with_reducible refine Kd.C_alloc ?_ _) | (with_reducible refine Kd.C_drewN ?_ _) | (with_reducible refine Kd.C_drew ?_) | exact HR309_4.out)⟩, ⟨by repeat (first | (with_reducible first | exact HB.out | apply below_alloc | apply pw_below_drewN | apply below_drew1) | exact HB.out)⟩⟩
                          · rw [if_neg c19] at H
                            have c19b0 : decide (((rd_T39 t302 x6_1).f1) ≤ ((rd_T39 t302 (ji16)).f1)) = false := decide_eq_false c19
                            clear c19
                            by_cases c20 : 0 ≤ ((rd_T39 t302 x6_1).f1)
                            · rw [if_pos c20] at H
                              have c20b0 : decide (0 ≤ ((rd_T39 t302 x6_1).f1)) = true := decide_eq_true c20
                              clear c20
                              by_cases c21 : ((rd_T39 t302 x6_1).f1) < (a0.size : Int)
                              · rw [if_pos c21] at H
                                have c21b0 : decide (((rd_T39 t302 x6_1).f1) < (a0.size : Int)) = true := decide_eq_true c21
                                clear c21
                                by_cases c23 : (bt a0 ((rd_T39 t302 x6_1).f1)) = 60
                                · rw [if_pos c23] at H
                                  have c23b0 : ((bt a0 ((rd_T39 t302 x6_1).f1)) == 60) = true := beq_iff_eq.mpr c23
                                  have c23b1 : ((bt a0 ((rd_T39 t302 x6_1).f1)) != 60) = false := bne_eq_false_iff_eq.mpr c23
                                  clear c23
                                  by_cases c24 : ((rd_T39 t302 x6_1).f0) = 3
                                  · rw [if_pos c24] at H
                                    have c24b0 : (((rd_T39 t302 x6_1).f0) == 3) = true := beq_iff_eq.mpr c24
                                    have c24b1 : (((rd_T39 t302 x6_1).f0) != 3) = false := bne_eq_false_iff_eq.mpr c24
                                    clear c24
                                    have H' := Aside0.mk H
                                    clear H
                                    have p310 : 0 ≤ ((ji16) : Int) := of_decide_eq_true (by first | (with_reducible assumption) | assumption)
                                    have q310 : (ji16) < (t302.length : Int) := of_decide_eq_true (by first | (with_reducible assumption) | assumption)
                                    obtain ⟨ad310, A310_4, c310_4, e310, hx310_0, hx310_1, hx310_2, hx310_3, hx310_4, hx310_5, hl310_4, hi310_4⟩ := at_T39 (Kd.S_reads' HO_3.out).2.2 (ji16) p310 q310
                                    obtain rfl : ad309 = ad310 := (by injection e310)
                                    obtain ⟨ce310, hce310, hMe310, hcc310⟩ := Kd.S_get HO_3.out z39 (ji16) p310 (by first | exact q310 | exact of_decide_eq_true (by first | (with_reducible assumption) | assumption) | (have e_ := (Kd.S_reads' HO_3.out).1; omega))
                                    obtain ⟨ve310_4, rfl, ge310_4⟩ := k39_openM hMe310
                                    have hv310_4 := hcc310 4 _ rfl
                                    rw [add_field _ _ 4 (by omega)] at hv310_4
                                    replace hv310_4 := Option.some.inj (hv310_4.symm.trans hx310_4)
                                    rw [hv310_4] at ge310_4
                                    have HL310_4 := Aside0.mk (show Kd.R k41 41 _ _ _ _ ((rd_T39 t302 (ji16)).f4) from ge310_4)
                                    clear hv310_4 ge310_4
                                    clear hcc310 hce310
                                    have HR310_4 := Aside0.mk hi310_4
                                    have HC310_4 := Aside0.mk hl310_4
                                    clear hi310_4 hl310_4
                                    replace p310 := eq_true p310
                                    replace q310 := eq_true q310
                                    have p22 : 0 ≤ (((rd_T39 t302 x6_1).f1) : Int) := of_decide_eq_true (by first | (with_reducible assumption) | assumption)
                                    have q22 : ((rd_T39 t302 x6_1).f1) < (a0.size : Int) := of_decide_eq_true (by first | (with_reducible assumption) | assumption)
                                    have hx22 := bt_at a0 ((rd_T39 t302 x6_1).f1)
                                    replace p22 := eq_true p22
                                    replace q22 := eq_true q22
                                    have p311 : 0 ≤ (x6_1 : Int) := of_decide_eq_true (by first | (with_reducible assumption) | assumption)
                                    have q311 : x6_1 < (t302.length : Int) := of_decide_eq_true (by first | (with_reducible assumption) | assumption)
                                    obtain ⟨ad311, A311_4, c311_4, e311, hx311_0, hx311_1, hx311_2, hx311_3, hx311_4, hx311_5, hl311_4, hi311_4⟩ := at_T39 (Kd.S_reads' HO_3.out).2.2 x6_1 p311 q311
                                    obtain rfl : ad309 = ad311 := (by injection e311)
                                    obtain ⟨ce311, hce311, hMe311, hcc311⟩ := Kd.S_get HO_3.out z39 x6_1 p311 (by first | exact q311 | exact of_decide_eq_true (by first | (with_reducible assumption) | assumption) | (have e_ := (Kd.S_reads' HO_3.out).1; omega))
                                    obtain ⟨ve311_4, rfl, ge311_4⟩ := k39_openM hMe311
                                    have hv311_4 := hcc311 4 _ rfl
                                    rw [add_field _ _ 4 (by omega)] at hv311_4
                                    replace hv311_4 := Option.some.inj (hv311_4.symm.trans hx311_4)
                                    rw [hv311_4] at ge311_4
                                    have HL311_4 := Aside0.mk (show Kd.R k41 41 _ _ _ _ ((rd_T39 t302 x6_1).f4) from ge311_4)
                                    clear hv311_4 ge311_4
                                    clear hcc311 hce311
                                    have HR311_4 := Aside0.mk hi311_4
                                    have HC311_4 := Aside0.mk hl311_4
                                    clear hi311_4 hl311_4
                                    replace p311 := eq_true p311
                                    replace q311 := eq_true q311
                                    go_wp2
                                    repeat (go_quiet (fail); try go_wp2)
                                    go_meet
                                    case rel => exact ⟨_, (true), (by first | rfl | (simp; done) | exact congrArg Value.bool (nemp _) | exact congrArg Value.bool (emp _) | (simp [*]; done)), H', ⟨by have := HK1.out; first | omega | exact Nat.le_refl _⟩, ⟨by (with_reducible repeat (first | apply Kd.S_alloc | apply Kd.S_drewN | apply Kd.S_drew)); exact HO_3.out⟩, ⟨by repeat (first | (with_reducible exact HR309_4.out) | (with_reducible refine Kd.C_alloc ?_ _) | (with_reducible refine Kd.C_drewN ?_ _) | (with_reducible refine Kd.C_drew ?_) | exact HR309_4.out)⟩, ⟨by repeat (first | (with_reducible first | exact HB.out | apply below_alloc | apply pw_below_drewN | apply below_drew1) | exact HB.out)⟩⟩
                                  · rw [if_neg c24] at H
                                    have c24b0 : (((rd_T39 t302 x6_1).f0) == 3) = false := beq_eq_false_iff_ne.mpr c24
                                    have c24b1 : (((rd_T39 t302 x6_1).f0) != 3) = true := bne_iff_ne.mpr c24
                                    have H' := Aside0.mk H
                                    clear H
                                    have p310 : 0 ≤ ((ji16) : Int) := of_decide_eq_true (by first | (with_reducible assumption) | assumption)
                                    have q310 : (ji16) < (t302.length : Int) := of_decide_eq_true (by first | (with_reducible assumption) | assumption)
                                    obtain ⟨ad310, A310_4, c310_4, e310, hx310_0, hx310_1, hx310_2, hx310_3, hx310_4, hx310_5, hl310_4, hi310_4⟩ := at_T39 (Kd.S_reads' HO_3.out).2.2 (ji16) p310 q310
                                    obtain rfl : ad309 = ad310 := (by injection e310)
                                    obtain ⟨ce310, hce310, hMe310, hcc310⟩ := Kd.S_get HO_3.out z39 (ji16) p310 (by first | exact q310 | exact of_decide_eq_true (by first | (with_reducible assumption) | assumption) | (have e_ := (Kd.S_reads' HO_3.out).1; omega))
                                    obtain ⟨ve310_4, rfl, ge310_4⟩ := k39_openM hMe310
                                    have hv310_4 := hcc310 4 _ rfl
                                    rw [add_field _ _ 4 (by omega)] at hv310_4
                                    replace hv310_4 := Option.some.inj (hv310_4.symm.trans hx310_4)
                                    rw [hv310_4] at ge310_4
                                    have HL310_4 := Aside0.mk (show Kd.R k41 41 _ _ _ _ ((rd_T39 t302 (ji16)).f4) from ge310_4)
                                    clear hv310_4 ge310_4
                                    clear hcc310 hce310
                                    have HR310_4 := Aside0.mk hi310_4
                                    have HC310_4 := Aside0.mk hl310_4
                                    clear hi310_4 hl310_4
                                    replace p310 := eq_true p310
                                    replace q310 := eq_true q310
                                    have p22 : 0 ≤ (((rd_T39 t302 x6_1).f1) : Int) := of_decide_eq_true (by first | (with_reducible assumption) | assumption)
                                    have q22 : ((rd_T39 t302 x6_1).f1) < (a0.size : Int) := of_decide_eq_true (by first | (with_reducible assumption) | assumption)
                                    have hx22 := bt_at a0 ((rd_T39 t302 x6_1).f1)
                                    replace p22 := eq_true p22
                                    replace q22 := eq_true q22
                                    have p311 : 0 ≤ (x6_1 : Int) := of_decide_eq_true (by first | (with_reducible assumption) | assumption)
                                    have q311 : x6_1 < (t302.length : Int) := of_decide_eq_true (by first | (with_reducible assumption) | assumption)
                                    obtain ⟨ad311, A311_4, c311_4, e311, hx311_0, hx311_1, hx311_2, hx311_3, hx311_4, hx311_5, hl311_4, hi311_4⟩ := at_T39 (Kd.S_reads' HO_3.out).2.2 x6_1 p311 q311
                                    obtain rfl : ad309 = ad311 := (by injection e311)
                                    obtain ⟨ce311, hce311, hMe311, hcc311⟩ := Kd.S_get HO_3.out z39 x6_1 p311 (by first | exact q311 | exact of_decide_eq_true (by first | (with_reducible assumption) | assumption) | (have e_ := (Kd.S_reads' HO_3.out).1; omega))
                                    obtain ⟨ve311_4, rfl, ge311_4⟩ := k39_openM hMe311
                                    have hv311_4 := hcc311 4 _ rfl
                                    rw [add_field _ _ 4 (by omega)] at hv311_4
                                    replace hv311_4 := Option.some.inj (hv311_4.symm.trans hx311_4)
                                    rw [hv311_4] at ge311_4
                                    have HL311_4 := Aside0.mk (show Kd.R k41 41 _ _ _ _ ((rd_T39 t302 x6_1).f4) from ge311_4)
                                    clear hv311_4 ge311_4
                                    clear hcc311 hce311
                                    have HR311_4 := Aside0.mk hi311_4
                                    have HC311_4 := Aside0.mk hl311_4
                                    clear hi311_4 hl311_4
                                    replace p311 := eq_true p311
                                    replace q311 := eq_true q311
                                    go_wp2
                                    repeat (go_quiet (fail); try go_wp2)
                                    go_meet
                                    case rel => exact ⟨_, (false), (by first | rfl | (simp; done) | exact congrArg Value.bool (nemp _) | exact congrArg Value.bool (emp _) | (simp [*]; done)), H', ⟨by have := HK1.out; first | omega | exact Nat.le_refl _⟩, ⟨by (with_reducible repeat (first | apply Kd.S_alloc | apply Kd.S_drewN | apply Kd.S_drew)); exact HO_3.out⟩, ⟨by repeat (first | (with_reducible exact HR309_4.out) | (with_reducible refine Kd.C_alloc ?_ _) | (with_reducible refine Kd.C_drewN ?_ _) | (with_reducible refine Kd.C_drew ?_) | exact HR309_4.out)⟩, ⟨by repeat (first | (with_reducible first | exact HB.out | apply below_alloc | apply pw_below_drewN | apply below_drew1) | exact HB.out)⟩⟩
                                · rw [if_neg c23] at H
                                  have c23b0 : ((bt a0 ((rd_T39 t302 x6_1).f1)) == 60) = false := beq_eq_false_iff_ne.mpr c23
                                  have c23b1 : ((bt a0 ((rd_T39 t302 x6_1).f1)) != 60) = true := bne_iff_ne.mpr c23
                                  by_cases c25 : ((rd_T39 t302 x6_1).f0) = 3
                                  · rw [if_pos c25] at H
                                    have c25b0 : (((rd_T39 t302 x6_1).f0) == 3) = true := beq_iff_eq.mpr c25
                                    have c25b1 : (((rd_T39 t302 x6_1).f0) != 3) = false := bne_eq_false_iff_eq.mpr c25
                                    clear c25
                                    have H' := Aside0.mk H
                                    clear H
                                    have p310 : 0 ≤ ((ji16) : Int) := of_decide_eq_true (by first | (with_reducible assumption) | assumption)
                                    have q310 : (ji16) < (t302.length : Int) := of_decide_eq_true (by first | (with_reducible assumption) | assumption)
                                    obtain ⟨ad310, A310_4, c310_4, e310, hx310_0, hx310_1, hx310_2, hx310_3, hx310_4, hx310_5, hl310_4, hi310_4⟩ := at_T39 (Kd.S_reads' HO_3.out).2.2 (ji16) p310 q310
                                    obtain rfl : ad309 = ad310 := (by injection e310)
                                    obtain ⟨ce310, hce310, hMe310, hcc310⟩ := Kd.S_get HO_3.out z39 (ji16) p310 (by first | exact q310 | exact of_decide_eq_true (by first | (with_reducible assumption) | assumption) | (have e_ := (Kd.S_reads' HO_3.out).1; omega))
                                    obtain ⟨ve310_4, rfl, ge310_4⟩ := k39_openM hMe310
                                    have hv310_4 := hcc310 4 _ rfl
                                    rw [add_field _ _ 4 (by omega)] at hv310_4
                                    replace hv310_4 := Option.some.inj (hv310_4.symm.trans hx310_4)
                                    rw [hv310_4] at ge310_4
                                    have HL310_4 := Aside0.mk (show Kd.R k41 41 _ _ _ _ ((rd_T39 t302 (ji16)).f4) from ge310_4)
                                    clear hv310_4 ge310_4
                                    clear hcc310 hce310
                                    have HR310_4 := Aside0.mk hi310_4
                                    have HC310_4 := Aside0.mk hl310_4
                                    clear hi310_4 hl310_4
                                    replace p310 := eq_true p310
                                    replace q310 := eq_true q310
                                    have p22 : 0 ≤ (((rd_T39 t302 x6_1).f1) : Int) := of_decide_eq_true (by first | (with_reducible assumption) | assumption)
                                    have q22 : ((rd_T39 t302 x6_1).f1) < (a0.size : Int) := of_decide_eq_true (by first | (with_reducible assumption) | assumption)
                                    have hx22 := bt_at a0 ((rd_T39 t302 x6_1).f1)
                                    replace p22 := eq_true p22
                                    replace q22 := eq_true q22
                                    have p311 : 0 ≤ (x6_1 : Int) := of_decide_eq_true (by first | (with_reducible assumption) | assumption)
                                    have q311 : x6_1 < (t302.length : Int) := of_decide_eq_true (by first | (with_reducible assumption) | assumption)
                                    obtain ⟨ad311, A311_4, c311_4, e311, hx311_0, hx311_1, hx311_2, hx311_3, hx311_4, hx311_5, hl311_4, hi311_4⟩ := at_T39 (Kd.S_reads' HO_3.out).2.2 x6_1 p311 q311
                                    obtain rfl : ad309 = ad311 := (by injection e311)
                                    obtain ⟨ce311, hce311, hMe311, hcc311⟩ := Kd.S_get HO_3.out z39 x6_1 p311 (by first | exact q311 | exact of_decide_eq_true (by first | (with_reducible assumption) | assumption) | (have e_ := (Kd.S_reads' HO_3.out).1; omega))
                                    obtain ⟨ve311_4, rfl, ge311_4⟩ := k39_openM hMe311
                                    have hv311_4 := hcc311 4 _ rfl
                                    rw [add_field _ _ 4 (by omega)] at hv311_4
                                    replace hv311_4 := Option.some.inj (hv311_4.symm.trans hx311_4)
                                    rw [hv311_4] at ge311_4
                                    have HL311_4 := Aside0.mk (show Kd.R k41 41 _ _ _ _ ((rd_T39 t302 x6_1).f4) from ge311_4)
                                    clear hv311_4 ge311_4
                                    clear hcc311 hce311
                                    have HR311_4 := Aside0.mk hi311_4
                                    have HC311_4 := Aside0.mk hl311_4
                                    clear hi311_4 hl311_4
                                    replace p311 := eq_true p311
                                    replace q311 := eq_true q311
                                    go_wp2
                                    repeat (go_quiet (fail); try go_wp2)
                                    go_meet
                                    case rel => exact ⟨_, (false), (by first | rfl | (simp; done) | exact congrArg Value.bool (nemp _) | exact congrArg Value.bool (emp _) | (simp [*]; done)), H', ⟨by have := HK1.out; first | omega | exact Nat.le_refl _⟩, ⟨by (with_reducible repeat (first | apply Kd.S_alloc | apply Kd.S_drewN | apply Kd.S_drew)); exact HO_3.out⟩, ⟨by repeat (first | (with_reducible exact HR309_4.out) | (with_reducible refine Kd.C_alloc ?_ _) | (with_reducible refine Kd.C_drewN ?_ _) | (with_reducible refine Kd.C_drew ?_) | exact HR309_4.out)⟩, ⟨by repeat (first | (with_reducible first | exact HB.out | apply below_alloc | apply pw_below_drewN | apply below_drew1) | exact HB.out)⟩⟩
                                  · rw [if_neg c25] at H
                                    have c25b0 : (((rd_T39 t302 x6_1).f0) == 3) = false := beq_eq_false_iff_ne.mpr c25
                                    have c25b1 : (((rd_T39 t302 x6_1).f0) != 3) = true := bne_iff_ne.mpr c25
                                    have H' := Aside0.mk H
                                    clear H
                                    have p310 : 0 ≤ ((ji16) : Int) := of_decide_eq_true (by first | (with_reducible assumption) | assumption)
                                    have q310 : (ji16) < (t302.length : Int) := of_decide_eq_true (by first | (with_reducible assumption) | assumption)
                                    obtain ⟨ad310, A310_4, c310_4, e310, hx310_0, hx310_1, hx310_2, hx310_3, hx310_4, hx310_5, hl310_4, hi310_4⟩ := at_T39 (Kd.S_reads' HO_3.out).2.2 (ji16) p310 q310
                                    obtain rfl : ad309 = ad310 := (by injection e310)
                                    obtain ⟨ce310, hce310, hMe310, hcc310⟩ := Kd.S_get HO_3.out z39 (ji16) p310 (by first | exact q310 | exact of_decide_eq_true (by first | (with_reducible assumption) | assumption) | (have e_ := (Kd.S_reads' HO_3.out).1; omega))
                                    obtain ⟨ve310_4, rfl, ge310_4⟩ := k39_openM hMe310
                                    have hv310_4 := hcc310 4 _ rfl
                                    rw [add_field _ _ 4 (by omega)] at hv310_4
                                    replace hv310_4 := Option.some.inj (hv310_4.symm.trans hx310_4)
                                    rw [hv310_4] at ge310_4
                                    have HL310_4 := Aside0.mk (show Kd.R k41 41 _ _ _ _ ((rd_T39 t302 (ji16)).f4) from ge310_4)
                                    clear hv310_4 ge310_4
                                    clear hcc310 hce310
                                    have HR310_4 := Aside0.mk hi310_4
                                    have HC310_4 := Aside0.mk hl310_4
                                    clear hi310_4 hl310_4
                                    replace p310 := eq_true p310
                                    replace q310 := eq_true q310
                                    have p22 : 0 ≤ (((rd_T39 t302 x6_1).f1) : Int) := of_decide_eq_true (by first | (with_reducible assumption) | assumption)
                                    have q22 : ((rd_T39 t302 x6_1).f1) < (a0.size : Int) := of_decide_eq_true (by first | (with_reducible assumption) | assumption)
                                    have hx22 := bt_at a0 ((rd_T39 t302 x6_1).f1)
                                    replace p22 := eq_true p22
                                    replace q22 := eq_true q22
                                    have p311 : 0 ≤ (x6_1 : Int) := of_decide_eq_true (by first | (with_reducible assumption) | assumption)
                                    have q311 : x6_1 < (t302.length : Int) := of_decide_eq_true (by first | (with_reducible assumption) | assumption)
                                    obtain ⟨ad311, A311_4, c311_4, e311, hx311_0, hx311_1, hx311_2, hx311_3, hx311_4, hx311_5, hl311_4, hi311_4⟩ := at_T39 (Kd.S_reads' HO_3.out).2.2 x6_1 p311 q311
                                    obtain rfl : ad309 = ad311 := (by injection e311)
                                    obtain ⟨ce311, hce311, hMe311, hcc311⟩ := Kd.S_get HO_3.out z39 x6_1 p311 (by first | exact q311 | exact of_decide_eq_true (by first | (with_reducible assumption) | assumption) | (have e_ := (Kd.S_reads' HO_3.out).1; omega))
                                    obtain ⟨ve311_4, rfl, ge311_4⟩ := k39_openM hMe311
                                    have hv311_4 := hcc311 4 _ rfl
                                    rw [add_field _ _ 4 (by omega)] at hv311_4
                                    replace hv311_4 := Option.some.inj (hv311_4.symm.trans hx311_4)
                                    rw [hv311_4] at ge311_4
                                    have HL311_4 := Aside0.mk (show Kd.R k41 41 _ _ _ _ ((rd_T39 t302 x6_1).f4) from ge311_4)
                                    clear hv311_4 ge311_4
                                    clear hcc311 hce311
                                    have HR311_4 := Aside0.mk hi311_4
                                    have HC311_4 := Aside0.mk hl311_4
                                    clear hi311_4 hl311_4
                                    replace p311 := eq_true p311
                                    replace q311 := eq_true q311
                                    go_wp2
                                    repeat (go_quiet (fail); try go_wp2)
                                    go_meet
                                    case rel => exact ⟨_, (true), (by first | rfl | (simp; done) | exact congrArg Value.bool (nemp _) | exact congrArg Value.bool (emp _) | (simp [*]; done)), H', ⟨by have := HK1.out; first | omega | exact Nat.le_refl _⟩, ⟨by (with_reducible repeat (first | apply Kd.S_alloc | apply Kd.S_drewN | apply Kd.S_drew)); exact HO_3.out⟩, ⟨by repeat (first | (with_reducible exact HR309_4.out) | (with_reducible refine Kd.C_alloc ?_ _) | (with_reducible refine Kd.C_drewN ?_ _) | (with_reducible refine Kd.C_drew ?_) | exact HR309_4.out)⟩, ⟨by repeat (first | (with_reducible first | exact HB.out | apply below_alloc | apply pw_below_drewN | apply below_drew1) | exact HB.out)⟩⟩
                              · rw [if_neg c21] at H
                                exact absurd H (by simp)
                            · rw [if_neg c20] at H
                              exact absurd H (by simp)
                        · rw [if_neg c18] at H
                          exact absurd H (by simp)
                      · rw [if_neg c17] at H
                        exact absurd H (by simp)
                    · rw [if_neg c15] at H
                      have c15b0 : decide (0 < x6_1) = false := decide_eq_false c15
                      clear c15
                      by_cases c26 : 0 ≤ ((rd_T39 t302 x6_1).f1)
                      · rw [if_pos c26] at H
                        have c26b0 : decide (0 ≤ ((rd_T39 t302 x6_1).f1)) = true := decide_eq_true c26
                        clear c26
                        by_cases c27 : ((rd_T39 t302 x6_1).f1) < (a0.size : Int)
                        · rw [if_pos c27] at H
                          have c27b0 : decide (((rd_T39 t302 x6_1).f1) < (a0.size : Int)) = true := decide_eq_true c27
                          clear c27
                          by_cases c29 : (bt a0 ((rd_T39 t302 x6_1).f1)) = 60
                          · rw [if_pos c29] at H
                            have c29b0 : ((bt a0 ((rd_T39 t302 x6_1).f1)) == 60) = true := beq_iff_eq.mpr c29
                            have c29b1 : ((bt a0 ((rd_T39 t302 x6_1).f1)) != 60) = false := bne_eq_false_iff_eq.mpr c29
                            clear c29
                            by_cases c30 : ((rd_T39 t302 x6_1).f0) = 3
                            · rw [if_pos c30] at H
                              have c30b0 : (((rd_T39 t302 x6_1).f0) == 3) = true := beq_iff_eq.mpr c30
                              have c30b1 : (((rd_T39 t302 x6_1).f0) != 3) = false := bne_eq_false_iff_eq.mpr c30
                              clear c30
                              have H' := Aside0.mk H
                              clear H
                              have p28 : 0 ≤ (((rd_T39 t302 x6_1).f1) : Int) := of_decide_eq_true (by first | (with_reducible assumption) | assumption)
                              have q28 : ((rd_T39 t302 x6_1).f1) < (a0.size : Int) := of_decide_eq_true (by first | (with_reducible assumption) | assumption)
                              have hx28 := bt_at a0 ((rd_T39 t302 x6_1).f1)
                              replace p28 := eq_true p28
                              replace q28 := eq_true q28
                              have p312 : 0 ≤ (x6_1 : Int) := of_decide_eq_true (by first | (with_reducible assumption) | assumption)
                              have q312 : x6_1 < (t302.length : Int) := of_decide_eq_true (by first | (with_reducible assumption) | assumption)
                              obtain ⟨ad312, A312_4, c312_4, e312, hx312_0, hx312_1, hx312_2, hx312_3, hx312_4, hx312_5, hl312_4, hi312_4⟩ := at_T39 (Kd.S_reads' HO_3.out).2.2 x6_1 p312 q312
                              obtain rfl : ad309 = ad312 := (by injection e312)
                              obtain ⟨ce312, hce312, hMe312, hcc312⟩ := Kd.S_get HO_3.out z39 x6_1 p312 (by first | exact q312 | exact of_decide_eq_true (by first | (with_reducible assumption) | assumption) | (have e_ := (Kd.S_reads' HO_3.out).1; omega))
                              obtain ⟨ve312_4, rfl, ge312_4⟩ := k39_openM hMe312
                              have hv312_4 := hcc312 4 _ rfl
                              rw [add_field _ _ 4 (by omega)] at hv312_4
                              replace hv312_4 := Option.some.inj (hv312_4.symm.trans hx312_4)
                              rw [hv312_4] at ge312_4
                              have HL312_4 := Aside0.mk (show Kd.R k41 41 _ _ _ _ ((rd_T39 t302 x6_1).f4) from ge312_4)
                              clear hv312_4 ge312_4
                              clear hcc312 hce312
                              have HR312_4 := Aside0.mk hi312_4
                              have HC312_4 := Aside0.mk hl312_4
                              clear hi312_4 hl312_4
                              replace p312 := eq_true p312
                              replace q312 := eq_true q312
                              go_wp2
                              repeat (go_quiet (fail); try go_wp2)
                              go_meet
                              case rel => exact ⟨_, (true), (by first | rfl | (simp; done) | exact congrArg Value.bool (nemp _) | exact congrArg Value.bool (emp _) | (simp [*]; done)), H', ⟨by have := HK1.out; first | omega | exact Nat.le_refl _⟩, ⟨by (with_reducible repeat (first | apply Kd.S_alloc | apply Kd.S_drewN | apply Kd.S_drew)); exact HO_3.out⟩, ⟨by repeat (first | (with_reducible exact HR309_4.out) | (with_reducible refine Kd.C_alloc ?_ _) | (with_reducible refine Kd.C_drewN ?_ _) | (with_reducible refine Kd.C_drew ?_) | exact HR309_4.out)⟩, ⟨by repeat (first | (with_reducible first | exact HB.out | apply below_alloc | apply pw_below_drewN | apply below_drew1) | exact HB.out)⟩⟩
                            · rw [if_neg c30] at H
                              have c30b0 : (((rd_T39 t302 x6_1).f0) == 3) = false := beq_eq_false_iff_ne.mpr c30
                              have c30b1 : (((rd_T39 t302 x6_1).f0) != 3) = true := bne_iff_ne.mpr c30
                              have H' := Aside0.mk H
                              clear H
                              have p28 : 0 ≤ (((rd_T39 t302 x6_1).f1) : Int) := of_decide_eq_true (by first | (with_reducible assumption) | assumption)
                              have q28 : ((rd_T39 t302 x6_1).f1) < (a0.size : Int) := of_decide_eq_true (by first | (with_reducible assumption) | assumption)
                              have hx28 := bt_at a0 ((rd_T39 t302 x6_1).f1)
                              replace p28 := eq_true p28
                              replace q28 := eq_true q28
                              have p312 : 0 ≤ (x6_1 : Int) := of_decide_eq_true (by first | (with_reducible assumption) | assumption)
                              have q312 : x6_1 < (t302.length : Int) := of_decide_eq_true (by first | (with_reducible assumption) | assumption)
                              obtain ⟨ad312, A312_4, c312_4, e312, hx312_0, hx312_1, hx312_2, hx312_3, hx312_4, hx312_5, hl312_4, hi312_4⟩ := at_T39 (Kd.S_reads' HO_3.out).2.2 x6_1 p312 q312
                              obtain rfl : ad309 = ad312 := (by injection e312)
                              obtain ⟨ce312, hce312, hMe312, hcc312⟩ := Kd.S_get HO_3.out z39 x6_1 p312 (by first | exact q312 | exact of_decide_eq_true (by first | (with_reducible assumption) | assumption) | (have e_ := (Kd.S_reads' HO_3.out).1; omega))
                              obtain ⟨ve312_4, rfl, ge312_4⟩ := k39_openM hMe312
                              have hv312_4 := hcc312 4 _ rfl
                              rw [add_field _ _ 4 (by omega)] at hv312_4
                              replace hv312_4 := Option.some.inj (hv312_4.symm.trans hx312_4)
                              rw [hv312_4] at ge312_4
                              have HL312_4 := Aside0.mk (show Kd.R k41 41 _ _ _ _ ((rd_T39 t302 x6_1).f4) from ge312_4)
                              clear hv312_4 ge312_4
                              clear hcc312 hce312
                              have HR312_4 := Aside0.mk hi312_4
                              have HC312_4 := Aside0.mk hl312_4
                              clear hi312_4 hl312_4
                              replace p312 := eq_true p312
                              replace q312 := eq_true q312
                              go_wp2
                              repeat (go_quiet (fail); try go_wp2)
                              go_meet
                              case rel => exact ⟨_, (false), (by first | rfl | (simp; done) | exact congrArg Value.bool (nemp _) | exact congrArg Value.bool (emp _) | (simp [*]; done)), H', ⟨by have := HK1.out; first | omega | exact Nat.le_refl _⟩, ⟨by (with_reducible repeat (first | apply Kd.S_alloc | apply Kd.S_drewN | apply Kd.S_drew)); exact HO_3.out⟩, ⟨by repeat (first | (with_reducible exact HR309_4.out) | (with_reducible refine Kd.C_alloc ?_ _) | (with_reducible refine Kd.C_drewN ?_ _) | (with_reducible refine Kd.C_drew ?_) | exact HR309_4.out)⟩, ⟨by repeat (first | (with_reducible first | exact HB.out | apply below_alloc | apply pw_below_drewN | apply below_drew1) | exact HB.out)⟩⟩
                          · rw [if_neg c29] at H
                            have c29b0 : ((bt a0 ((rd_T39 t302 x6_1).f1)) == 60) = false := beq_eq_false_iff_ne.mpr c29
                            have c29b1 : ((bt a0 ((rd_T39 t302 x6_1).f1)) != 60) = true := bne_iff_ne.mpr c29
                            by_cases c31 : ((rd_T39 t302 x6_1).f0) = 3
                            · rw [if_pos c31] at H
                              have c31b0 : (((rd_T39 t302 x6_1).f0) == 3) = true := beq_iff_eq.mpr c31
                              have c31b1 : (((rd_T39 t302 x6_1).f0) != 3) = false := bne_eq_false_iff_eq.mpr c31
                              clear c31
                              have H' := Aside0.mk H
                              clear H
                              have p28 : 0 ≤ (((rd_T39 t302 x6_1).f1) : Int) := of_decide_eq_true (by first | (with_reducible assumption) | assumption)
                              have q28 : ((rd_T39 t302 x6_1).f1) < (a0.size : Int) := of_decide_eq_true (by first | (with_reducible assumption) | assumption)
                              have hx28 := bt_at a0 ((rd_T39 t302 x6_1).f1)
                              replace p28 := eq_true p28
                              replace q28 := eq_true q28
                              have p312 : 0 ≤ (x6_1 : Int) := of_decide_eq_true (by first | (with_reducible assumption) | assumption)
                              have q312 : x6_1 < (t302.length : Int) := of_decide_eq_true (by first | (with_reducible assumption) | assumption)
                              obtain ⟨ad312, A312_4, c312_4, e312, hx312_0, hx312_1, hx312_2, hx312_3, hx312_4, hx312_5, hl312_4, hi312_4⟩ := at_T39 (Kd.S_reads' HO_3.out).2.2 x6_1 p312 q312
                              obtain rfl : ad309 = ad312 := (by injection e312)
                              obtain ⟨ce312, hce312, hMe312, hcc312⟩ := Kd.S_get HO_3.out z39 x6_1 p312 (by first | exact q312 | exact of_decide_eq_true (by first | (with_reducible assumption) | assumption) | (have e_ := (Kd.S_reads' HO_3.out).1; omega))
                              obtain ⟨ve312_4, rfl, ge312_4⟩ := k39_openM hMe312
                              have hv312_4 := hcc312 4 _ rfl
                              rw [add_field _ _ 4 (by omega)] at hv312_4
                              replace hv312_4 := Option.some.inj (hv312_4.symm.trans hx312_4)
                              rw [hv312_4] at ge312_4
                              have HL312_4 := Aside0.mk (show Kd.R k41 41 _ _ _ _ ((rd_T39 t302 x6_1).f4) from ge312_4)
                              clear hv312_4 ge312_4
                              clear hcc312 hce312
                              have HR312_4 := Aside0.mk hi312_4
                              have HC312_4 := Aside0.mk hl312_4
                              clear hi312_4 hl312_4
                              replace p312 := eq_true p312
                              replace q312 := eq_true q312
                              go_wp2
                              repeat (go_quiet (fail); try go_wp2)
                              go_meet
                              case rel => exact ⟨_, (false), (by first | rfl | (simp; done) | exact congrArg Value.bool (nemp _) | exact congrArg Value.bool (emp _) | (simp [*]; done)), H', ⟨by have := HK1.out; first | omega | exact Nat.le_refl _⟩, ⟨by (with_reducible repeat (first | apply Kd.S_alloc | apply Kd.S_drewN | apply Kd.S_drew)); exact HO_3.out⟩, ⟨by repeat (first | (with_reducible exact HR309_4.out) | (with_reducible refine Kd.C_alloc ?_ _) | (with_reducible refine Kd.C_drewN ?_ _) | (with_reducible refine Kd.C_drew ?_) | exact HR309_4.out)⟩, ⟨by repeat (first | (with_reducible first | exact HB.out | apply below_alloc | apply pw_below_drewN | apply below_drew1) | exact HB.out)⟩⟩
                            · rw [if_neg c31] at H
                              have c31b0 : (((rd_T39 t302 x6_1).f0) == 3) = false := beq_eq_false_iff_ne.mpr c31
                              have c31b1 : (((rd_T39 t302 x6_1).f0) != 3) = true := bne_iff_ne.mpr c31
                              have H' := Aside0.mk H
                              clear H
                              have p28 : 0 ≤ (((rd_T39 t302 x6_1).f1) : Int) := of_decide_eq_true (by first | (with_reducible assumption) | assumption)
                              have q28 : ((rd_T39 t302 x6_1).f1) < (a0.size : Int) := of_decide_eq_true (by first | (with_reducible assumption) | assumption)
                              have hx28 := bt_at a0 ((rd_T39 t302 x6_1).f1)
                              replace p28 := eq_true p28
                              replace q28 := eq_true q28
                              have p312 : 0 ≤ (x6_1 : Int) := of_decide_eq_true (by first | (with_reducible assumption) | assumption)
                              have q312 : x6_1 < (t302.length : Int) := of_decide_eq_true (by first | (with_reducible assumption) | assumption)
                              obtain ⟨ad312, A312_4, c312_4, e312, hx312_0, hx312_1, hx312_2, hx312_3, hx312_4, hx312_5, hl312_4, hi312_4⟩ := at_T39 (Kd.S_reads' HO_3.out).2.2 x6_1 p312 q312
                              obtain rfl : ad309 = ad312 := (by injection e312)
                              obtain ⟨ce312, hce312, hMe312, hcc312⟩ := Kd.S_get HO_3.out z39 x6_1 p312 (by first | exact q312 | exact of_decide_eq_true (by first | (with_reducible assumption) | assumption) | (have e_ := (Kd.S_reads' HO_3.out).1; omega))
                              obtain ⟨ve312_4, rfl, ge312_4⟩ := k39_openM hMe312
                              have hv312_4 := hcc312 4 _ rfl
                              rw [add_field _ _ 4 (by omega)] at hv312_4
                              replace hv312_4 := Option.some.inj (hv312_4.symm.trans hx312_4)
                              rw [hv312_4] at ge312_4
                              have HL312_4 := Aside0.mk (show Kd.R k41 41 _ _ _ _ ((rd_T39 t302 x6_1).f4) from ge312_4)
                              clear hv312_4 ge312_4
                              clear hcc312 hce312
                              have HR312_4 := Aside0.mk hi312_4
                              have HC312_4 := Aside0.mk hl312_4
                              clear hi312_4 hl312_4
                              replace p312 := eq_true p312
                              replace q312 := eq_true q312
                              go_wp2
                              repeat (go_quiet (fail); try go_wp2)
                              go_meet
                              case rel => exact ⟨_, (true), (by first | rfl | (simp; done) | exact congrArg Value.bool (nemp _) | exact congrArg Value.bool (emp _) | (simp [*]; done)), H', ⟨by have := HK1.out; first | omega | exact Nat.le_refl _⟩, ⟨by (with_reducible repeat (first | apply Kd.S_alloc | apply Kd.S_drewN | apply Kd.S_drew)); exact HO_3.out⟩, ⟨by repeat (first | (with_reducible exact HR309_4.out) | (with_reducible refine Kd.C_alloc ?_ _) | (with_reducible refine Kd.C_drewN ?_ _) | (with_reducible refine Kd.C_drew ?_) | exact HR309_4.out)⟩, ⟨by repeat (first | (with_reducible first | exact HB.out | apply below_alloc | apply pw_below_drewN | apply below_drew1) | exact HB.out)⟩⟩
                        · rw [if_neg c27] at H
                          exact absurd H (by simp)
                      · rw [if_neg c26] at H
                        exact absurd H (by simp)
              case rest =>
                clear HC11
                try clear c1
                try clear c2
                try clear c2b0
                try clear c2b1
                try clear p2
                try clear q2
                try clear hx2
                try clear c3
                try clear p3
                try clear q3
                try clear hx3
                try clear c4
                try clear p6
                try clear c7
                try clear c7b0
                try clear c7b1
                try clear c9
                try clear c10
                try clear c13
                try clear c13b0
                try clear c14
                try clear c14b0
                try clear c15
                try clear c15b0
                try clear c17
                try clear c17b0
                try clear c18
                try clear c18b0
                try clear c19
                try clear c19b0
                try clear c20
                try clear c20b0
                try clear c21
                try clear c21b0
                try clear p22
                try clear q22
                try clear hx22
                try clear c23
                try clear c23b0
                try clear c23b1
                try clear c24
                try clear c24b0
                try clear c24b1
                try clear c25
                try clear c25b0
                try clear c25b1
                try clear c26
                try clear c26b0
                try clear c27
                try clear c27b0
                try clear p28
                try clear q28
                try clear hx28
                try clear c29
                try clear c29b0
                try clear c29b1
                try clear c30
                try clear c30b0
                try clear c30b1
                try clear p30
                try clear q30
                try clear hx30
                try clear c31
                try clear c31b0
                try clear c31b1
                try clear p31
                try clear q31
                try clear hx31
                try clear hx309_0
                try clear hx309_1
                try clear hx309_2
                try clear hx309_3
                try clear hx309_4
                try clear hx309_5
                try clear hx310_0
                try clear hx310_1
                try clear hx310_2
                try clear hx310_3
                try clear hx310_4
                try clear hx310_5
                try clear hx311_0
                try clear hx311_1
                try clear hx311_2
                try clear hx311_3
                try clear hx311_4
                try clear hx311_5
                try clear hx312_0
                try clear hx312_1
                try clear hx312_2
                try clear hx312_3
                try clear hx312_4
                try clear hx312_5
                try clear p2
                try clear p22
                try clear p28
                try clear p309
                try clear p310
                try clear p311
                try clear p312
                try clear q22
                try clear q28
                try clear q309
                try clear q310
                try clear q311
                try clear q312
                obtain ⟨kq, x74_10, rfl, HA, HJ10, HO_3, HR309_4, HB⟩ := hcut
                cases kq with
                | zero => exact absurd HA.out (by simp [cardexlaw08_TokenPlaces.j1])
                | succ kj10 =>
                  have H := HA.out
                  clear HA
                  simp only [cardexlaw08_TokenPlaces.j1] at H
                  by_cases c32 : x74_10 = true
                  · subst c32
                    have H1 : (some false) = some r := by rw [if_pos rfl] at H; exact H
                    clear H
                    have H := H1
                    clear H1
                    exact absurd ((Option.some.inj H).trans HLAW.out) (by decide)
                  · replace c32 := Bool.eq_false_iff.mpr c32
                    subst c32
                    have H1 : (if 0 ≤ ((rd_T39 t302 x6_1).f1) then (if ((rd_T39 t302 x6_1).f1) ≤ (a0.size : Int) then ((token_Tokens.f kj10 (a0.extract (((rd_T39 t302 x6_1).f1) : Int).toNat a0.size)).bind fun bt314 => (if (bt314.1.length : Int) = 0 then (some false) else (if bt314.2.2 = 0 then (if 0 < (bt314.1.length : Int) then (if 0 ≤ x6_1 then (if x6_1 < (t302.length : Int) then (if ((rd_T39 bt314.1 0).f0) = ((rd_T39 t302 x6_1).f0) then (if ((rd_T39 bt314.1 0).f2).toList = ((rd_T39 t302 x6_1).f2).toList then (if ((rd_T39 bt314.1 0).f3).toList = ((rd_T39 t302 x6_1).f3).toList then (if ((rd_T39 bt314.1 0).f1) = 0 then (cardexlaw08_TokenPlaces.l0 kj10 a0 t302 (wrap64 (x6_1 + 1))) else (some false)) else (some false)) else (some false)) else (some false)) else (none)) else (none)) else (none)) else (some false)))) else (none)) else (none)) = some r := by rw [if_neg (show ¬ (false = true) by decide)] at H; exact H
                    clear H
                    have H := H1
                    clear H1
                    by_cases c33 : 0 ≤ ((rd_T39 t302 x6_1).f1)
                    · rw [if_pos c33] at H
                      have c33b0 := eq_true c33
                      have c33b1 : decide (0 ≤ ((rd_T39 t302 x6_1).f1)) = true := decide_eq_true c33
                      clear c33
                      by_cases c34 : ((rd_T39 t302 x6_1).f1) ≤ (a0.size : Int)
                      · rw [if_pos c34] at H
                        have c34b0 := eq_true c34
                        have c34b1 : decide (((rd_T39 t302 x6_1).f1) ≤ (a0.size : Int)) = true := decide_eq_true c34
                        clear c34
                        obtain ⟨y313, hy313⟩ : ∃ y_ : ByteArray, y_ = (a0.extract (((rd_T39 t302 x6_1).f1) : Int).toNat a0.size) := ⟨_, rfl⟩
                        replace H : ((token_Tokens.f kj10 y313).bind fun bt314 => (if (bt314.1.length : Int) = 0 then (some false) else (if bt314.2.2 = 0 then (if 0 < (bt314.1.length : Int) then (if 0 ≤ x6_1 then (if x6_1 < (t302.length : Int) then (if ((rd_T39 bt314.1 0).f0) = ((rd_T39 t302 x6_1).f0) then (if ((rd_T39 bt314.1 0).f2).toList = ((rd_T39 t302 x6_1).f2).toList then (if ((rd_T39 bt314.1 0).f3).toList = ((rd_T39 t302 x6_1).f3).toList then (if ((rd_T39 bt314.1 0).f1) = 0 then (cardexlaw08_TokenPlaces.l0 kj10 a0 t302 (wrap64 (x6_1 + 1))) else (some false)) else (some false)) else (some false)) else (some false)) else (none)) else (none)) else (none)) else (some false)))) = some r := by first | (rw [hy313]; with_reducible exact H) | (have H2_ := (Option.bind_some _ _).symm.trans H; rw [hy313]; with_reducible exact H2_) | (have H2_ := (Option.bind_some _ _).symm.trans H; with_reducible exact H2_) | with_reducible exact H | (rw [hy313]; exact H) | exact H
                        have Ny313 := Aside0.mk hy313
                        clear hy313
                        have ey313 : (a0.extract (((rd_T39 t302 x6_1).f1) : Int).toNat a0.size) = y313 := Ny313.out.symm
                        replace H := Option.bind_eq_some_iff.mp H
                        obtain ⟨⟨t314, t315, t316⟩, A350, H⟩ := H
                        replace H : (if (t314.length : Int) = 0 then (some false) else (if t316 = 0 then (if 0 < (t314.length : Int) then (if 0 ≤ x6_1 then (if x6_1 < (t302.length : Int) then (if ((rd_T39 t314 0).f0) = ((rd_T39 t302 x6_1).f0) then (if ((rd_T39 t314 0).f2).toList = ((rd_T39 t302 x6_1).f2).toList then (if ((rd_T39 t314 0).f3).toList = ((rd_T39 t302 x6_1).f3).toList then (if ((rd_T39 t314 0).f1) = 0 then (cardexlaw08_TokenPlaces.l0 kj10 a0 t302 (wrap64 (x6_1 + 1))) else (some false)) else (some false)) else (some false)) else (some false)) else (none)) else (none)) else (none)) else (some false))) = some r := H
                        have A35 := Aside0.mk A350
                        clear A350
                        by_cases c36 : (t314.length : Int) = 0
                        · rw [if_pos c36] at H
                          have c36b0 : ((t314.length : Int) == 0) = true := beq_iff_eq.mpr c36
                          have c36b1 : ((t314.length : Int) != 0) = false := bne_eq_false_iff_eq.mpr c36
                          clear c36
                          exact absurd ((Option.some.inj H).trans HLAW.out) (by decide)
                        · rw [if_neg c36] at H
                          have c36b0 : ((t314.length : Int) == 0) = false := beq_eq_false_iff_ne.mpr c36
                          have c36b1 : ((t314.length : Int) != 0) = true := bne_iff_ne.mpr c36
                          have c36b2 : ¬ (t314 = []) := fun h_ => c36 (by rw [h_]; rfl)
                          by_cases c37 : t316 = 0
                          · rw [if_pos c37] at H
                            have c37b0 : (t316 == 0) = true := beq_iff_eq.mpr c37
                            have c37b1 : (t316 != 0) = false := bne_eq_false_iff_eq.mpr c37
                            clear c37
                            by_cases c38 : 0 < (t314.length : Int)
                            · rw [if_pos c38] at H
                              have c38b0 : decide (0 < (t314.length : Int)) = true := decide_eq_true c38
                              have c38b1 : decide (0 < t314.length) = true := decide_eq_true (by omega)
                              clear c38
                              rw [if_pos (of_decide_eq_true c10b0)] at H
                              rw [if_pos (of_decide_eq_true c9b0)] at H
                              by_cases c39 : ((rd_T39 t314 0).f0) = ((rd_T39 t302 x6_1).f0)
                              · rw [if_pos c39] at H
                                have c39b0 : (((rd_T39 t314 0).f0) == ((rd_T39 t302 x6_1).f0)) = true := beq_iff_eq.mpr c39
                                have c39b1 : (((rd_T39 t314 0).f0) != ((rd_T39 t302 x6_1).f0)) = false := bne_eq_false_iff_eq.mpr c39
                                clear c39
                                by_cases c40 : ((rd_T39 t314 0).f2).toList = ((rd_T39 t302 x6_1).f2).toList
                                · rw [if_pos c40] at H
                                  have c40b0 : (((rd_T39 t314 0).f2).toList == ((rd_T39 t302 x6_1).f2).toList) = true := beq_iff_eq.mpr c40
                                  have c40b1 : (((rd_T39 t314 0).f2).toList != ((rd_T39 t302 x6_1).f2).toList) = false := bne_eq_false_iff_eq.mpr c40
                                  clear c40
                                  by_cases c41 : ((rd_T39 t314 0).f3).toList = ((rd_T39 t302 x6_1).f3).toList
                                  · rw [if_pos c41] at H
                                    have c41b0 : (((rd_T39 t314 0).f3).toList == ((rd_T39 t302 x6_1).f3).toList) = true := beq_iff_eq.mpr c41
                                    have c41b1 : (((rd_T39 t314 0).f3).toList != ((rd_T39 t302 x6_1).f3).toList) = false := bne_eq_false_iff_eq.mpr c41
                                    clear c41
                                    by_cases c42 : ((rd_T39 t314 0).f1) = 0
                                    · rw [if_pos c42] at H
                                      have c42b0 : (((rd_T39 t314 0).f1) == 0) = true := beq_iff_eq.mpr c42
                                      have c42b1 : (((rd_T39 t314 0).f1) != 0) = false := bne_eq_false_iff_eq.mpr c42
                                      clear c42
                                      have H' := Aside0.mk H
                                      clear H
                                      go_wp2_with (first | (go_at_call 21; (with_reducible refine (token_Tokens.calls kj10 y313 t314 t315 t316 _ A35.out (tabs_b HT.out (by repeat (first | (with_reducible first | exact HB.out | apply below_alloc | apply pw_below_drewN | apply below_drew1) | exact HB.out)))).mono ?_); rintro e w43 ⟨v317, rfl, ho0, hb⟩; have n0_ := Aside0.mk (Kd.S_elder' (by (with_reducible repeat (first | apply Kd.S_alloc | apply Kd.S_drewN | apply Kd.S_drew)); exact HO_3.out) (Kd.S_base ho0) hb); have n1_ := Aside0.mk (Kd.S_lower (Kd.S_new' ho0 (Kd.S_lt (by (with_reducible repeat (first | apply Kd.S_alloc | apply Kd.S_drewN | apply Kd.S_drew)); exact HO_3.out))) (below_size (by repeat (first | (with_reducible first | exact HB.out | apply below_alloc | apply pw_below_drewN | apply below_drew1) | exact HB.out)))); have n2_ := Aside0.mk (Kd.C_below (by repeat (first | (with_reducible exact HR309_4.out) | (with_reducible refine Kd.C_alloc ?_ _) | (with_reducible refine Kd.C_drewN ?_ _) | (with_reducible refine Kd.C_drew ?_) | exact HR309_4.out)) hb); have n3_ := Aside0.mk (below_step (by repeat (first | (with_reducible first | exact HB.out | apply below_alloc | apply pw_below_drewN | apply below_drew1) | exact HB.out)) hb); clear HO_3; clear HR309_4; clear HB; have HO_3 := n0_; have HO318 := n1_; have HR309_4 := n2_; have HB := n3_; clear n0_ n1_ n2_ n3_; (try clear hb); (try clear hb2); (try clear hk); (try clear hi); (try clear ho0); obtain ⟨Ao44, co44, eo44⟩ := Kd.S_slice HO318.out; subst eo44; have p319 : 0 ≤ (0 : Int) := (by omega); have q319 : 0 < (t314.length : Int) := of_decide_eq_true (by first | (with_reducible assumption) | assumption); obtain ⟨ad319, A319_4, c319_4, e319, hx319_0, hx319_1, hx319_2, hx319_3, hx319_4, hx319_5, hl319_4, hi319_4⟩ := at_T39 (Kd.S_reads' HO318.out).2.2 0 p319 q319; cases e319; obtain ⟨ce319, hce319, hMe319, hcc319⟩ := Kd.S_get HO318.out z39 0 p319 (by first | exact q319 | exact of_decide_eq_true (by first | (with_reducible assumption) | assumption) | (have e_ := (Kd.S_reads' HO318.out).1; omega)); obtain ⟨ve319_4, rfl, ge319_4⟩ := k39_openM hMe319; have hv319_4 := hcc319 4 _ rfl; rw [add_field _ _ 4 (by omega)] at hv319_4; replace hv319_4 := Option.some.inj (hv319_4.symm.trans hx319_4); rw [hv319_4] at ge319_4; have HL319_4 := Aside0.mk (show Kd.R k41 41 _ _ _ _ ((rd_T39 t314 0).f4) from ge319_4); clear hv319_4 ge319_4; clear hcc319 hce319; have qi319 : (0 < t314.length) = True := eq_true (by omega); (try rw [show ((0 : Int)).toNat = 0 from rfl] at hx319_0); (try rw [show 0 * 6 = 0 from rfl] at hx319_0); (try rw [Addr.add_zero'] at hx319_0); (try rw [show ((0 : Int)).toNat = 0 from rfl] at hx319_1); (try rw [show 0 * 6 = 0 from rfl] at hx319_1); (try rw [Addr.add_zero'] at hx319_1); (try rw [show ((0 : Int)).toNat = 0 from rfl] at hx319_2); (try rw [show 0 * 6 = 0 from rfl] at hx319_2); (try rw [Addr.add_zero'] at hx319_2); (try rw [show ((0 : Int)).toNat = 0 from rfl] at hx319_3); (try rw [show 0 * 6 = 0 from rfl] at hx319_3); (try rw [Addr.add_zero'] at hx319_3); (try rw [show ((0 : Int)).toNat = 0 from rfl] at hx319_4); (try rw [show 0 * 6 = 0 from rfl] at hx319_4); (try rw [Addr.add_zero'] at hx319_4); (try rw [show ((0 : Int)).toNat = 0 from rfl] at hx319_5); (try rw [show 0 * 6 = 0 from rfl] at hx319_5); (try rw [Addr.add_zero'] at hx319_5); have HR319_4 := Aside0.mk hi319_4; have HC319_4 := Aside0.mk hl319_4; clear hi319_4 hl319_4; replace p319 := eq_true p319; replace q319 := eq_true q319; have p320 : 0 ≤ (x6_1 : Int) := of_decide_eq_true (by first | (with_reducible assumption) | assumption); have q320 : x6_1 < (t302.length : Int) := of_decide_eq_true (by first | (with_reducible assumption) | assumption); obtain ⟨ad320, A320_4, c320_4, e320, hx320_0, hx320_1, hx320_2, hx320_3, hx320_4, hx320_5, hl320_4, hi320_4⟩ := at_T39 (Kd.S_reads' HO_3.out).2.2 x6_1 p320 q320; obtain rfl : ad309 = ad320 := (by injection e320); obtain ⟨ce320, hce320, hMe320, hcc320⟩ := Kd.S_get HO_3.out z39 x6_1 p320 (by first | exact q320 | exact of_decide_eq_true (by first | (with_reducible assumption) | assumption) | (have e_ := (Kd.S_reads' HO_3.out).1; omega)); obtain ⟨ve320_4, rfl, ge320_4⟩ := k39_openM hMe320; have hv320_4 := hcc320 4 _ rfl; rw [add_field _ _ 4 (by omega)] at hv320_4; replace hv320_4 := Option.some.inj (hv320_4.symm.trans hx320_4); rw [hv320_4] at ge320_4; have HL320_4 := Aside0.mk (show Kd.R k41 41 _ _ _ _ ((rd_T39 t302 x6_1).f4) from ge320_4); clear hv320_4 ge320_4; clear hcc320 hce320; have HR320_4 := Aside0.mk hi320_4; have HC320_4 := Aside0.mk hl320_4; clear hi320_4 hl320_4; replace p320 := eq_true p320; replace q320 := eq_true q320; have p321 : 0 ≤ (0 : Int) := (by omega); have q321 : 0 < (t314.length : Int) := of_decide_eq_true (by first | (with_reducible assumption) | assumption); obtain ⟨ad321, A321_4, c321_4, e321, hx321_0, hx321_1, hx321_2, hx321_3, hx321_4, hx321_5, hl321_4, hi321_4⟩ := at_T39 (Kd.S_reads' HO318.out).2.2 0 p321 q321; obtain rfl : ad319 = ad321 := (by injection e321); obtain ⟨ce321, hce321, hMe321, hcc321⟩ := Kd.S_get HO318.out z39 0 p321 (by first | exact q321 | exact of_decide_eq_true (by first | (with_reducible assumption) | assumption) | (have e_ := (Kd.S_reads' HO318.out).1; omega)); obtain ⟨ve321_4, rfl, ge321_4⟩ := k39_openM hMe321; have hv321_4 := hcc321 4 _ rfl; rw [add_field _ _ 4 (by omega)] at hv321_4; replace hv321_4 := Option.some.inj (hv321_4.symm.trans hx321_4); rw [hv321_4] at ge321_4; have HL321_4 := Aside0.mk (show Kd.R k41 41 _ _ _ _ ((rd_T39 t314 0).f4) from ge321_4); clear hv321_4 ge321_4; clear hcc321 hce321; have qi321 : (0 < t314.length) = True := eq_true (by omega); (try rw [show ((0 : Int)).toNat = 0 from rfl] at hx321_0); (try rw [show 0 * 6 = 0 from rfl] at hx321_0); (try rw [Addr.add_zero'] at hx321_0); (try rw [show ((0 : Int)).toNat = 0 from rfl] at hx321_1); (try rw [show 0 * 6 = 0 from rfl] at hx321_1); (try rw [Addr.add_zero'] at hx321_1); (try rw [show ((0 : Int)).toNat = 0 from rfl] at hx321_2); (try rw [show 0 * 6 = 0 from rfl] at hx321_2); (try rw [Addr.add_zero'] at hx321_2); (try rw [show ((0 : Int)).toNat = 0 from rfl] at hx321_3); (try rw [show 0 * 6 = 0 from rfl] at hx321_3); (try rw [Addr.add_zero'] at hx321_3); (try rw [show ((0 : Int)).toNat = 0 from rfl] at hx321_4); (try rw [show 0 * 6 = 0 from rfl] at hx321_4); (try rw [Addr.add_zero'] at hx321_4); (try rw [show ((0 : Int)).toNat = 0 from rfl] at hx321_5); (try rw [show 0 * 6 = 0 from rfl] at hx321_5); (try rw [Addr.add_zero'] at hx321_5); have HR321_4 := Aside0.mk hi321_4; have HC321_4 := Aside0.mk hl321_4; clear hi321_4 hl321_4; replace p321 := eq_true p321; replace q321 := eq_true q321; have ea_ := Option.some.inj (hx319_4.symm.trans hx321_4); injection ea_ with ea_ en_ ec_; subst ea_; subst ec_; clear en_; have p322 : 0 ≤ (x6_1 : Int) := of_decide_eq_true (by first | (with_reducible assumption) | assumption); have q322 : x6_1 < (t302.length : Int) := of_decide_eq_true (by first | (with_reducible assumption) | assumption); obtain ⟨ad322, A322_4, c322_4, e322, hx322_0, hx322_1, hx322_2, hx322_3, hx322_4, hx322_5, hl322_4, hi322_4⟩ := at_T39 (Kd.S_reads' HO_3.out).2.2 x6_1 p322 q322; obtain rfl : ad309 = ad322 := (by injection e322); obtain ⟨ce322, hce322, hMe322, hcc322⟩ := Kd.S_get HO_3.out z39 x6_1 p322 (by first | exact q322 | exact of_decide_eq_true (by first | (with_reducible assumption) | assumption) | (have e_ := (Kd.S_reads' HO_3.out).1; omega)); obtain ⟨ve322_4, rfl, ge322_4⟩ := k39_openM hMe322; have hv322_4 := hcc322 4 _ rfl; rw [add_field _ _ 4 (by omega)] at hv322_4; replace hv322_4 := Option.some.inj (hv322_4.symm.trans hx322_4); rw [hv322_4] at ge322_4; have HL322_4 := Aside0.mk (show Kd.R k41 41 _ _ _ _ ((rd_T39 t302 x6_1).f4) from ge322_4); clear hv322_4 ge322_4; clear hcc322 hce322; have HR322_4 := Aside0.mk hi322_4; have HC322_4 := Aside0.mk hl322_4; clear hi322_4 hl322_4; replace p322 := eq_true p322; replace q322 := eq_true q322; have ea_ := Option.some.inj (hx320_4.symm.trans hx322_4); injection ea_ with ea_ en_ ec_; subst ea_; subst ec_; clear en_; have p323 : 0 ≤ (0 : Int) := (by omega); have q323 : 0 < (t314.length : Int) := of_decide_eq_true (by first | (with_reducible assumption) | assumption); obtain ⟨ad323, A323_4, c323_4, e323, hx323_0, hx323_1, hx323_2, hx323_3, hx323_4, hx323_5, hl323_4, hi323_4⟩ := at_T39 (Kd.S_reads' HO318.out).2.2 0 p323 q323; obtain rfl : ad319 = ad323 := (by injection e323); obtain ⟨ce323, hce323, hMe323, hcc323⟩ := Kd.S_get HO318.out z39 0 p323 (by first | exact q323 | exact of_decide_eq_true (by first | (with_reducible assumption) | assumption) | (have e_ := (Kd.S_reads' HO318.out).1; omega)); obtain ⟨ve323_4, rfl, ge323_4⟩ := k39_openM hMe323; have hv323_4 := hcc323 4 _ rfl; rw [add_field _ _ 4 (by omega)] at hv323_4; replace hv323_4 := Option.some.inj (hv323_4.symm.trans hx323_4); rw [hv323_4] at ge323_4; have HL323_4 := Aside0.mk (show Kd.R k41 41 _ _ _ _ ((rd_T39 t314 0).f4) from ge323_4); clear hv323_4 ge323_4; clear hcc323 hce323; have qi323 : (0 < t314.length) = True := eq_true (by omega); (try rw [show ((0 : Int)).toNat = 0 from rfl] at hx323_0); (try rw [show 0 * 6 = 0 from rfl] at hx323_0); (try rw [Addr.add_zero'] at hx323_0); (try rw [show ((0 : Int)).toNat = 0 from rfl] at hx323_1); (try rw [show 0 * 6 = 0 from rfl] at hx323_1); (try rw [Addr.add_zero'] at hx323_1); (try rw [show ((0 : Int)).toNat = 0 from rfl] at hx323_2); (try rw [show 0 * 6 = 0 from rfl] at hx323_2); (try rw [Addr.add_zero'] at hx323_2); (try rw [show ((0 : Int)).toNat = 0 from rfl] at hx323_3); (try rw [show 0 * 6 = 0 from rfl] at hx323_3); (try rw [Addr.add_zero'] at hx323_3); (try rw [show ((0 : Int)).toNat = 0 from rfl] at hx323_4); (try rw [show 0 * 6 = 0 from rfl] at hx323_4); (try rw [Addr.add_zero'] at hx323_4); (try rw [show ((0 : Int)).toNat = 0 from rfl] at hx323_5); (try rw [show 0 * 6 = 0 from rfl] at hx323_5); (try rw [Addr.add_zero'] at hx323_5); have HR323_4 := Aside0.mk hi323_4; have HC323_4 := Aside0.mk hl323_4; clear hi323_4 hl323_4; replace p323 := eq_true p323; replace q323 := eq_true q323; have ea_ := Option.some.inj (hx319_4.symm.trans hx323_4); injection ea_ with ea_ en_ ec_; subst ea_; subst ec_; clear en_; have p324 : 0 ≤ (x6_1 : Int) := of_decide_eq_true (by first | (with_reducible assumption) | assumption); have q324 : x6_1 < (t302.length : Int) := of_decide_eq_true (by first | (with_reducible assumption) | assumption); obtain ⟨ad324, A324_4, c324_4, e324, hx324_0, hx324_1, hx324_2, hx324_3, hx324_4, hx324_5, hl324_4, hi324_4⟩ := at_T39 (Kd.S_reads' HO_3.out).2.2 x6_1 p324 q324; obtain rfl : ad309 = ad324 := (by injection e324); obtain ⟨ce324, hce324, hMe324, hcc324⟩ := Kd.S_get HO_3.out z39 x6_1 p324 (by first | exact q324 | exact of_decide_eq_true (by first | (with_reducible assumption) | assumption) | (have e_ := (Kd.S_reads' HO_3.out).1; omega)); obtain ⟨ve324_4, rfl, ge324_4⟩ := k39_openM hMe324; have hv324_4 := hcc324 4 _ rfl; rw [add_field _ _ 4 (by omega)] at hv324_4; replace hv324_4 := Option.some.inj (hv324_4.symm.trans hx324_4); rw [hv324_4] at ge324_4; have HL324_4 := Aside0.mk (show Kd.R k41 41 _ _ _ _ ((rd_T39 t302 x6_1).f4) from ge324_4); clear hv324_4 ge324_4; clear hcc324 hce324; have HR324_4 := Aside0.mk hi324_4; have HC324_4 := Aside0.mk hl324_4; clear hi324_4 hl324_4; replace p324 := eq_true p324; replace q324 := eq_true q324; have ea_ := Option.some.inj (hx320_4.symm.trans hx324_4); injection ea_ with ea_ en_ ec_; subst ea_; subst ec_; clear en_; have p325 : 0 ≤ (0 : Int) := (by omega); have q325 : 0 < (t314.length : Int) := of_decide_eq_true (by first | (with_reducible assumption) | assumption); obtain ⟨ad325, A325_4, c325_4, e325, hx325_0, hx325_1, hx325_2, hx325_3, hx325_4, hx325_5, hl325_4, hi325_4⟩ := at_T39 (Kd.S_reads' HO318.out).2.2 0 p325 q325; obtain rfl : ad319 = ad325 := (by injection e325); obtain ⟨ce325, hce325, hMe325, hcc325⟩ := Kd.S_get HO318.out z39 0 p325 (by first | exact q325 | exact of_decide_eq_true (by first | (with_reducible assumption) | assumption) | (have e_ := (Kd.S_reads' HO318.out).1; omega)); obtain ⟨ve325_4, rfl, ge325_4⟩ := k39_openM hMe325; have hv325_4 := hcc325 4 _ rfl; rw [add_field _ _ 4 (by omega)] at hv325_4; replace hv325_4 := Option.some.inj (hv325_4.symm.trans hx325_4); rw [hv325_4] at ge325_4; have HL325_4 := Aside0.mk (show Kd.R k41 41 _ _ _ _ ((rd_T39 t314 0).f4) from ge325_4); clear hv325_4 ge325_4; clear hcc325 hce325; have qi325 : (0 < t314.length) = True := eq_true (by omega); (try rw [show ((0 : Int)).toNat = 0 from rfl] at hx325_0); (try rw [show 0 * 6 = 0 from rfl] at hx325_0); (try rw [Addr.add_zero'] at hx325_0); (try rw [show ((0 : Int)).toNat = 0 from rfl] at hx325_1); (try rw [show 0 * 6 = 0 from rfl] at hx325_1); (try rw [Addr.add_zero'] at hx325_1); (try rw [show ((0 : Int)).toNat = 0 from rfl] at hx325_2); (try rw [show 0 * 6 = 0 from rfl] at hx325_2); (try rw [Addr.add_zero'] at hx325_2); (try rw [show ((0 : Int)).toNat = 0 from rfl] at hx325_3); (try rw [show 0 * 6 = 0 from rfl] at hx325_3); (try rw [Addr.add_zero'] at hx325_3); (try rw [show ((0 : Int)).toNat = 0 from rfl] at hx325_4); (try rw [show 0 * 6 = 0 from rfl] at hx325_4); (try rw [Addr.add_zero'] at hx325_4); (try rw [show ((0 : Int)).toNat = 0 from rfl] at hx325_5); (try rw [show 0 * 6 = 0 from rfl] at hx325_5); (try rw [Addr.add_zero'] at hx325_5); have HR325_4 := Aside0.mk hi325_4; have HC325_4 := Aside0.mk hl325_4; clear hi325_4 hl325_4; replace p325 := eq_true p325; replace q325 := eq_true q325; have ea_ := Option.some.inj (hx319_4.symm.trans hx325_4); injection ea_ with ea_ en_ ec_; subst ea_; subst ec_; clear en_))
                                      repeat (go_quiet (first | (go_at_call 21; (with_reducible refine (token_Tokens.calls kj10 y313 t314 t315 t316 _ A35.out (tabs_b HT.out (by repeat (first | (with_reducible first | exact HB.out | apply below_alloc | apply pw_below_drewN | apply below_drew1) | exact HB.out)))).mono ?_); rintro e w43 ⟨v317, rfl, ho0, hb⟩; have n0_ := Aside0.mk (Kd.S_elder' (by (with_reducible repeat (first | apply Kd.S_alloc | apply Kd.S_drewN | apply Kd.S_drew)); exact HO_3.out) (Kd.S_base ho0) hb); have n1_ := Aside0.mk (Kd.S_lower (Kd.S_new' ho0 (Kd.S_lt (by (with_reducible repeat (first | apply Kd.S_alloc | apply Kd.S_drewN | apply Kd.S_drew)); exact HO_3.out))) (below_size (by repeat (first | (with_reducible first | exact HB.out | apply below_alloc | apply pw_below_drewN | apply below_drew1) | exact HB.out)))); have n2_ := Aside0.mk (Kd.C_below (by repeat (first | (with_reducible exact HR309_4.out) | (with_reducible refine Kd.C_alloc ?_ _) | (with_reducible refine Kd.C_drewN ?_ _) | (with_reducible refine Kd.C_drew ?_) | exact HR309_4.out)) hb); have n3_ := Aside0.mk (below_step (by repeat (first | (with_reducible first | exact HB.out | apply below_alloc | apply pw_below_drewN | apply below_drew1) | exact HB.out)) hb); clear HO_3; clear HR309_4; clear HB; have HO_3 := n0_; have HO318 := n1_; have HR309_4 := n2_; have HB := n3_; clear n0_ n1_ n2_ n3_; (try clear hb); (try clear hb2); (try clear hk); (try clear hi); (try clear ho0); obtain ⟨Ao44, co44, eo44⟩ := Kd.S_slice HO318.out; subst eo44; have p319 : 0 ≤ (0 : Int) := (by omega); have q319 : 0 < (t314.length : Int) := of_decide_eq_true (by first | (with_reducible assumption) | assumption); obtain ⟨ad319, A319_4, c319_4, e319, hx319_0, hx319_1, hx319_2, hx319_3, hx319_4, hx319_5, hl319_4, hi319_4⟩ := at_T39 (Kd.S_reads' HO318.out).2.2 0 p319 q319; cases e319; obtain ⟨ce319, hce319, hMe319, hcc319⟩ := Kd.S_get HO318.out z39 0 p319 (by first | exact q319 | exact of_decide_eq_true (by first | (with_reducible assumption) | assumption) | (have e_ := (Kd.S_reads' HO318.out).1; omega)); obtain ⟨ve319_4, rfl, ge319_4⟩ := k39_openM hMe319; have hv319_4 := hcc319 4 _ rfl; rw [add_field _ _ 4 (by omega)] at hv319_4; replace hv319_4 := Option.some.inj (hv319_4.symm.trans hx319_4); rw [hv319_4] at ge319_4; have HL319_4 := Aside0.mk (show Kd.R k41 41 _ _ _ _ ((rd_T39 t314 0).f4) from ge319_4); clear hv319_4 ge319_4; clear hcc319 hce319; have qi319 : (0 < t314.length) = True := eq_true (by omega); (try rw [show ((0 : Int)).toNat = 0 from rfl] at hx319_0); (try rw [show 0 * 6 = 0 from rfl] at hx319_0); (try rw [Addr.add_zero'] at hx319_0); (try rw [show ((0 : Int)).toNat = 0 from rfl] at hx319_1); (try rw [show 0 * 6 = 0 from rfl] at hx319_1); (try rw [Addr.add_zero'] at hx319_1); (try rw [show ((0 : Int)).toNat = 0 from rfl] at hx319_2); (try rw [show 0 * 6 = 0 from rfl] at hx319_2); (try rw [Addr.add_zero'] at hx319_2); (try rw [show ((0 : Int)).toNat = 0 from rfl] at hx319_3); (try rw [show 0 * 6 = 0 from rfl] at hx319_3); (try rw [Addr.add_zero'] at hx319_3); (try rw [show ((0 : Int)).toNat = 0 from rfl] at hx319_4); (try rw [show 0 * 6 = 0 from rfl] at hx319_4); (try rw [Addr.add_zero'] at hx319_4); (try rw [show ((0 : Int)).toNat = 0 from rfl] at hx319_5); (try rw [show 0 * 6 = 0 from rfl] at hx319_5); (try rw [Addr.add_zero'] at hx319_5); have HR319_4 := Aside0.mk hi319_4; have HC319_4 := Aside0.mk hl319_4; clear hi319_4 hl319_4; replace p319 := eq_true p319; replace q319 := eq_true q319; have p320 : 0 ≤ (x6_1 : Int) := of_decide_eq_true (by first | (with_reducible assumption) | assumption); have q320 : x6_1 < (t302.length : Int) := of_decide_eq_true (by first | (with_reducible assumption) | assumption); obtain ⟨ad320, A320_4, c320_4, e320, hx320_0, hx320_1, hx320_2, hx320_3, hx320_4, hx320_5, hl320_4, hi320_4⟩ := at_T39 (Kd.S_reads' HO_3.out).2.2 x6_1 p320 q320; obtain rfl : ad309 = ad320 := (by injection e320); obtain ⟨ce320, hce320, hMe320, hcc320⟩ := Kd.S_get HO_3.out z39 x6_1 p320 (by first | exact q320 | exact of_decide_eq_true (by first | (with_reducible assumption) | assumption) | (have e_ := (Kd.S_reads' HO_3.out).1; omega)); obtain ⟨ve320_4, rfl, ge320_4⟩ := k39_openM hMe320; have hv320_4 := hcc320 4 _ rfl; rw [add_field _ _ 4 (by omega)] at hv320_4; replace hv320_4 := Option.some.inj (hv320_4.symm.trans hx320_4); rw [hv320_4] at ge320_4; have HL320_4 := Aside0.mk (show Kd.R k41 41 _ _ _ _ ((rd_T39 t302 x6_1).f4) from ge320_4); clear hv320_4 ge320_4; clear hcc320 hce320; have HR320_4 := Aside0.mk hi320_4; have HC320_4 := Aside0.mk hl320_4; clear hi320_4 hl320_4; replace p320 := eq_true p320; replace q320 := eq_true q320; have p321 : 0 ≤ (0 : Int) := (by omega); have q321 : 0 < (t314.length : Int) := of_decide_eq_true (by first | (with_reducible assumption) | assumption); obtain ⟨ad321, A321_4, c321_4, e321, hx321_0, hx321_1, hx321_2, hx321_3, hx321_4, hx321_5, hl321_4, hi321_4⟩ := at_T39 (Kd.S_reads' HO318.out).2.2 0 p321 q321; obtain rfl : ad319 = ad321 := (by injection e321); obtain ⟨ce321, hce321, hMe321, hcc321⟩ := Kd.S_get HO318.out z39 0 p321 (by first | exact q321 | exact of_decide_eq_true (by first | (with_reducible assumption) | assumption) | (have e_ := (Kd.S_reads' HO318.out).1; omega)); obtain ⟨ve321_4, rfl, ge321_4⟩ := k39_openM hMe321; have hv321_4 := hcc321 4 _ rfl; rw [add_field _ _ 4 (by omega)] at hv321_4; replace hv321_4 := Option.some.inj (hv321_4.symm.trans hx321_4); rw [hv321_4] at ge321_4; have HL321_4 := Aside0.mk (show Kd.R k41 41 _ _ _ _ ((rd_T39 t314 0).f4) from ge321_4); clear hv321_4 ge321_4; clear hcc321 hce321; have qi321 : (0 < t314.length) = True := eq_true (by omega); (try rw [show ((0 : Int)).toNat = 0 from rfl] at hx321_0); (try rw [show 0 * 6 = 0 from rfl] at hx321_0); (try rw [Addr.add_zero'] at hx321_0); (try rw [show ((0 : Int)).toNat = 0 from rfl] at hx321_1); (try rw [show 0 * 6 = 0 from rfl] at hx321_1); (try rw [Addr.add_zero'] at hx321_1); (try rw [show ((0 : Int)).toNat = 0 from rfl] at hx321_2); (try rw [show 0 * 6 = 0 from rfl] at hx321_2); (try rw [Addr.add_zero'] at hx321_2); (try rw [show ((0 : Int)).toNat = 0 from rfl] at hx321_3); (try rw [show 0 * 6 = 0 from rfl] at hx321_3); (try rw [Addr.add_zero'] at hx321_3); (try rw [show ((0 : Int)).toNat = 0 from rfl] at hx321_4); (try rw [show 0 * 6 = 0 from rfl] at hx321_4); (try rw [Addr.add_zero'] at hx321_4); (try rw [show ((0 : Int)).toNat = 0 from rfl] at hx321_5); (try rw [show 0 * 6 = 0 from rfl] at hx321_5); (try rw [Addr.add_zero'] at hx321_5); have HR321_4 := Aside0.mk hi321_4; have HC321_4 := Aside0.mk hl321_4; clear hi321_4 hl321_4; replace p321 := eq_true p321; replace q321 := eq_true q321; have ea_ := Option.some.inj (hx319_4.symm.trans hx321_4); injection ea_ with ea_ en_ ec_; subst ea_; subst ec_; clear en_; have p322 : 0 ≤ (x6_1 : Int) := of_decide_eq_true (by first | (with_reducible assumption) | assumption); have q322 : x6_1 < (t302.length : Int) := of_decide_eq_true (by first | (with_reducible assumption) | assumption); obtain ⟨ad322, A322_4, c322_4, e322, hx322_0, hx322_1, hx322_2, hx322_3, hx322_4, hx322_5, hl322_4, hi322_4⟩ := at_T39 (Kd.S_reads' HO_3.out).2.2 x6_1 p322 q322; obtain rfl : ad309 = ad322 := (by injection e322); obtain ⟨ce322, hce322, hMe322, hcc322⟩ := Kd.S_get HO_3.out z39 x6_1 p322 (by first | exact q322 | exact of_decide_eq_true (by first | (with_reducible assumption) | assumption) | (have e_ := (Kd.S_reads' HO_3.out).1; omega)); obtain ⟨ve322_4, rfl, ge322_4⟩ := k39_openM hMe322; have hv322_4 := hcc322 4 _ rfl; rw [add_field _ _ 4 (by omega)] at hv322_4; replace hv322_4 := Option.some.inj (hv322_4.symm.trans hx322_4); rw [hv322_4] at ge322_4; have HL322_4 := Aside0.mk (show Kd.R k41 41 _ _ _ _ ((rd_T39 t302 x6_1).f4) from ge322_4); clear hv322_4 ge322_4; clear hcc322 hce322; have HR322_4 := Aside0.mk hi322_4; have HC322_4 := Aside0.mk hl322_4; clear hi322_4 hl322_4; replace p322 := eq_true p322; replace q322 := eq_true q322; have ea_ := Option.some.inj (hx320_4.symm.trans hx322_4); injection ea_ with ea_ en_ ec_; subst ea_; subst ec_; clear en_; have p323 : 0 ≤ (0 : Int) := (by omega); have q323 : 0 < (t314.length : Int) := of_decide_eq_true (by first | (with_reducible assumption) | assumption); obtain ⟨ad323, A323_4, c323_4, e323, hx323_0, hx323_1, hx323_2, hx323_3, hx323_4, hx323_5, hl323_4, hi323_4⟩ := at_T39 (Kd.S_reads' HO318.out).2.2 0 p323 q323; obtain rfl : ad319 = ad323 := (by injection e323); obtain ⟨ce323, hce323, hMe323, hcc323⟩ := Kd.S_get HO318.out z39 0 p323 (by first | exact q323 | exact of_decide_eq_true (by first | (with_reducible assumption) | assumption) | (have e_ := (Kd.S_reads' HO318.out).1; omega)); obtain ⟨ve323_4, rfl, ge323_4⟩ := k39_openM hMe323; have hv323_4 := hcc323 4 _ rfl; rw [add_field _ _ 4 (by omega)] at hv323_4; replace hv323_4 := Option.some.inj (hv323_4.symm.trans hx323_4); rw [hv323_4] at ge323_4; have HL323_4 := Aside0.mk (show Kd.R k41 41 _ _ _ _ ((rd_T39 t314 0).f4) from ge323_4); clear hv323_4 ge323_4; clear hcc323 hce323; have qi323 : (0 < t314.length) = True := eq_true (by omega); (try rw [show ((0 : Int)).toNat = 0 from rfl] at hx323_0); (try rw [show 0 * 6 = 0 from rfl] at hx323_0); (try rw [Addr.add_zero'] at hx323_0); (try rw [show ((0 : Int)).toNat = 0 from rfl] at hx323_1); (try rw [show 0 * 6 = 0 from rfl] at hx323_1); (try rw [Addr.add_zero'] at hx323_1); (try rw [show ((0 : Int)).toNat = 0 from rfl] at hx323_2); (try rw [show 0 * 6 = 0 from rfl] at hx323_2); (try rw [Addr.add_zero'] at hx323_2); (try rw [show ((0 : Int)).toNat = 0 from rfl] at hx323_3); (try rw [show 0 * 6 = 0 from rfl] at hx323_3); (try rw [Addr.add_zero'] at hx323_3); (try rw [show ((0 : Int)).toNat = 0 from rfl] at hx323_4); (try rw [show 0 * 6 = 0 from rfl] at hx323_4); (try rw [Addr.add_zero'] at hx323_4); (try rw [show ((0 : Int)).toNat = 0 from rfl] at hx323_5); (try rw [show 0 * 6 = 0 from rfl] at hx323_5); (try rw [Addr.add_zero'] at hx323_5); have HR323_4 := Aside0.mk hi323_4; have HC323_4 := Aside0.mk hl323_4; clear hi323_4 hl323_4; replace p323 := eq_true p323; replace q323 := eq_true q323; have ea_ := Option.some.inj (hx319_4.symm.trans hx323_4); injection ea_ with ea_ en_ ec_; subst ea_; subst ec_; clear en_; have p324 : 0 ≤ (x6_1 : Int) := of_decide_eq_true (by first | (with_reducible assumption) | assumption); have q324 : x6_1 < (t302.length : Int) := of_decide_eq_true (by first | (with_reducible assumption) | assumption); obtain ⟨ad324, A324_4, c324_4, e324, hx324_0, hx324_1, hx324_2, hx324_3, hx324_4, hx324_5, hl324_4, hi324_4⟩ := at_T39 (Kd.S_reads' HO_3.out).2.2 x6_1 p324 q324; obtain rfl : ad309 = ad324 := (by injection e324); obtain ⟨ce324, hce324, hMe324, hcc324⟩ := Kd.S_get HO_3.out z39 x6_1 p324 (by first | exact q324 | exact of_decide_eq_true (by first | (with_reducible assumption) | assumption) | (have e_ := (Kd.S_reads' HO_3.out).1; omega)); obtain ⟨ve324_4, rfl, ge324_4⟩ := k39_openM hMe324; have hv324_4 := hcc324 4 _ rfl; rw [add_field _ _ 4 (by omega)] at hv324_4; replace hv324_4 := Option.some.inj (hv324_4.symm.trans hx324_4); rw [hv324_4] at ge324_4; have HL324_4 := Aside0.mk (show Kd.R k41 41 _ _ _ _ ((rd_T39 t302 x6_1).f4) from ge324_4); clear hv324_4 ge324_4; clear hcc324 hce324; have HR324_4 := Aside0.mk hi324_4; have HC324_4 := Aside0.mk hl324_4; clear hi324_4 hl324_4; replace p324 := eq_true p324; replace q324 := eq_true q324; have ea_ := Option.some.inj (hx320_4.symm.trans hx324_4); injection ea_ with ea_ en_ ec_; subst ea_; subst ec_; clear en_; have p325 : 0 ≤ (0 : Int) := (by omega); have q325 : 0 < (t314.length : Int) := of_decide_eq_true (by first | (with_reducible assumption) | assumption); obtain ⟨ad325, A325_4, c325_4, e325, hx325_0, hx325_1, hx325_2, hx325_3, hx325_4, hx325_5, hl325_4, hi325_4⟩ := at_T39 (Kd.S_reads' HO318.out).2.2 0 p325 q325; obtain rfl : ad319 = ad325 := (by injection e325); obtain ⟨ce325, hce325, hMe325, hcc325⟩ := Kd.S_get HO318.out z39 0 p325 (by first | exact q325 | exact of_decide_eq_true (by first | (with_reducible assumption) | assumption) | (have e_ := (Kd.S_reads' HO318.out).1; omega)); obtain ⟨ve325_4, rfl, ge325_4⟩ := k39_openM hMe325; have hv325_4 := hcc325 4 _ rfl; rw [add_field _ _ 4 (by omega)] at hv325_4; replace hv325_4 := Option.some.inj (hv325_4.symm.trans hx325_4); rw [hv325_4] at ge325_4; have HL325_4 := Aside0.mk (show Kd.R k41 41 _ _ _ _ ((rd_T39 t314 0).f4) from ge325_4); clear hv325_4 ge325_4; clear hcc325 hce325; have qi325 : (0 < t314.length) = True := eq_true (by omega); (try rw [show ((0 : Int)).toNat = 0 from rfl] at hx325_0); (try rw [show 0 * 6 = 0 from rfl] at hx325_0); (try rw [Addr.add_zero'] at hx325_0); (try rw [show ((0 : Int)).toNat = 0 from rfl] at hx325_1); (try rw [show 0 * 6 = 0 from rfl] at hx325_1); (try rw [Addr.add_zero'] at hx325_1); (try rw [show ((0 : Int)).toNat = 0 from rfl] at hx325_2); (try rw [show 0 * 6 = 0 from rfl] at hx325_2); (try rw [Addr.add_zero'] at hx325_2); (try rw [show ((0 : Int)).toNat = 0 from rfl] at hx325_3); (try rw [show 0 * 6 = 0 from rfl] at hx325_3); (try rw [Addr.add_zero'] at hx325_3); (try rw [show ((0 : Int)).toNat = 0 from rfl] at hx325_4); (try rw [show 0 * 6 = 0 from rfl] at hx325_4); (try rw [Addr.add_zero'] at hx325_4); (try rw [show ((0 : Int)).toNat = 0 from rfl] at hx325_5); (try rw [show 0 * 6 = 0 from rfl] at hx325_5); (try rw [Addr.add_zero'] at hx325_5); have HR325_4 := Aside0.mk hi325_4; have HC325_4 := Aside0.mk hl325_4; clear hi325_4 hl325_4; replace p325 := eq_true p325; replace q325 := eq_true q325; have ea_ := Option.some.inj (hx319_4.symm.trans hx325_4); injection ea_ with ea_ en_ ec_; subst ea_; subst ec_; clear en_)); try go_wp2_with (first | (go_at_call 21; (with_reducible refine (token_Tokens.calls kj10 y313 t314 t315 t316 _ A35.out (tabs_b HT.out (by repeat (first | (with_reducible first | exact HB.out | apply below_alloc | apply pw_below_drewN | apply below_drew1) | exact HB.out)))).mono ?_); rintro e w43 ⟨v317, rfl, ho0, hb⟩; have n0_ := Aside0.mk (Kd.S_elder' (by (with_reducible repeat (first | apply Kd.S_alloc | apply Kd.S_drewN | apply Kd.S_drew)); exact HO_3.out) (Kd.S_base ho0) hb); have n1_ := Aside0.mk (Kd.S_lower (Kd.S_new' ho0 (Kd.S_lt (by (with_reducible repeat (first | apply Kd.S_alloc | apply Kd.S_drewN | apply Kd.S_drew)); exact HO_3.out))) (below_size (by repeat (first | (with_reducible first | exact HB.out | apply below_alloc | apply pw_below_drewN | apply below_drew1) | exact HB.out)))); have n2_ := Aside0.mk (Kd.C_below (by repeat (first | (with_reducible exact HR309_4.out) | (with_reducible refine Kd.C_alloc ?_ _) | (with_reducible refine Kd.C_drewN ?_ _) | (with_reducible refine Kd.C_drew ?_) | exact HR309_4.out)) hb); have n3_ := Aside0.mk (below_step (by repeat (first | (with_reducible first | exact HB.out | apply below_alloc | apply pw_below_drewN | apply below_drew1) | exact HB.out)) hb); clear HO_3; clear HR309_4; clear HB; have HO_3 := n0_; have HO318 := n1_; have HR309_4 := n2_; have HB := n3_; clear n0_ n1_ n2_ n3_; (try clear hb); (try clear hb2); (try clear hk); (try clear hi); (try clear ho0); obtain ⟨Ao44, co44, eo44⟩ := Kd.S_slice HO318.out; subst eo44; have p319 : 0 ≤ (0 : Int) := (by omega); have q319 : 0 < (t314.length : Int) := of_decide_eq_true (by first | (with_reducible assumption) | assumption); obtain ⟨ad319, A319_4, c319_4, e319, hx319_0, hx319_1, hx319_2, hx319_3, hx319_4, hx319_5, hl319_4, hi319_4⟩ := at_T39 (Kd.S_reads' HO318.out).2.2 0 p319 q319; cases e319; obtain ⟨ce319, hce319, hMe319, hcc319⟩ := Kd.S_get HO318.out z39 0 p319 (by first | exact q319 | exact of_decide_eq_true (by first | (with_reducible assumption) | assumption) | (have e_ := (Kd.S_reads' HO318.out).1; omega)); obtain ⟨ve319_4, rfl, ge319_4⟩ := k39_openM hMe319; have hv319_4 := hcc319 4 _ rfl; rw [add_field _ _ 4 (by omega)] at hv319_4; replace hv319_4 := Option.some.inj (hv319_4.symm.trans hx319_4); rw [hv319_4] at ge319_4; have HL319_4 := Aside0.mk (show Kd.R k41 41 _ _ _ _ ((rd_T39 t314 0).f4) from ge319_4); clear hv319_4 ge319_4; clear hcc319 hce319; have qi319 : (0 < t314.length) = True := eq_true (by omega); (try rw [show ((0 : Int)).toNat = 0 from rfl] at hx319_0); (try rw [show 0 * 6 = 0 from rfl] at hx319_0); (try rw [Addr.add_zero'] at hx319_0); (try rw [show ((0 : Int)).toNat = 0 from rfl] at hx319_1); (try rw [show 0 * 6 = 0 from rfl] at hx319_1); (try rw [Addr.add_zero'] at hx319_1); (try rw [show ((0 : Int)).toNat = 0 from rfl] at hx319_2); (try rw [show 0 * 6 = 0 from rfl] at hx319_2); (try rw [Addr.add_zero'] at hx319_2); (try rw [show ((0 : Int)).toNat = 0 from rfl] at hx319_3); (try rw [show 0 * 6 = 0 from rfl] at hx319_3); (try rw [Addr.add_zero'] at hx319_3); (try rw [show ((0 : Int)).toNat = 0 from rfl] at hx319_4); (try rw [show 0 * 6 = 0 from rfl] at hx319_4); (try rw [Addr.add_zero'] at hx319_4); (try rw [show ((0 : Int)).toNat = 0 from rfl] at hx319_5); (try rw [show 0 * 6 = 0 from rfl] at hx319_5); (try rw [Addr.add_zero'] at hx319_5); have HR319_4 := Aside0.mk hi319_4; have HC319_4 := Aside0.mk hl319_4; clear hi319_4 hl319_4; replace p319 := eq_true p319; replace q319 := eq_true q319; have p320 : 0 ≤ (x6_1 : Int) := of_decide_eq_true (by first | (with_reducible assumption) | assumption); have q320 : x6_1 < (t302.length : Int) := of_decide_eq_true (by first | (with_reducible assumption) | assumption); obtain ⟨ad320, A320_4, c320_4, e320, hx320_0, hx320_1, hx320_2, hx320_3, hx320_4, hx320_5, hl320_4, hi320_4⟩ := at_T39 (Kd.S_reads' HO_3.out).2.2 x6_1 p320 q320; obtain rfl : ad309 = ad320 := (by injection e320); obtain ⟨ce320, hce320, hMe320, hcc320⟩ := Kd.S_get HO_3.out z39 x6_1 p320 (by first | exact q320 | exact of_decide_eq_true (by first | (with_reducible assumption) | assumption) | (have e_ := (Kd.S_reads' HO_3.out).1; omega)); obtain ⟨ve320_4, rfl, ge320_4⟩ := k39_openM hMe320; have hv320_4 := hcc320 4 _ rfl; rw [add_field _ _ 4 (by omega)] at hv320_4; replace hv320_4 := Option.some.inj (hv320_4.symm.trans hx320_4); rw [hv320_4] at ge320_4; have HL320_4 := Aside0.mk (show Kd.R k41 41 _ _ _ _ ((rd_T39 t302 x6_1).f4) from ge320_4); clear hv320_4 ge320_4; clear hcc320 hce320; have HR320_4 := Aside0.mk hi320_4; have HC320_4 := Aside0.mk hl320_4; clear hi320_4 hl320_4; replace p320 := eq_true p320; replace q320 := eq_true q320; have p321 : 0 ≤ (0 : Int) := (by omega); have q321 : 0 < (t314.length : Int) := of_decide_eq_true (by first | (with_reducible assumption) | assumption); obtain ⟨ad321, A321_4, c321_4, e321, hx321_0, hx321_1, hx321_2, hx321_3, hx321_4, hx321_5, hl321_4, hi321_4⟩ := at_T39 (Kd.S_reads' HO318.out).2.2 0 p321 q321; obtain rfl : ad319 = ad321 := (by injection e321); obtain ⟨ce321, hce321, hMe321, hcc321⟩ := Kd.S_get HO318.out z39 0 p321 (by first | exact q321 | exact of_decide_eq_true (by first | (with_reducible assumption) | assumption) | (have e_ := (Kd.S_reads' HO318.out).1; omega)); obtain ⟨ve321_4, rfl, ge321_4⟩ := k39_openM hMe321; have hv321_4 := hcc321 4 _ rfl; rw [add_field _ _ 4 (by omega)] at hv321_4; replace hv321_4 := Option.some.inj (hv321_4.symm.trans hx321_4); rw [hv321_4] at ge321_4; have HL321_4 := Aside0.mk (show Kd.R k41 41 _ _ _ _ ((rd_T39 t314 0).f4) from ge321_4); clear hv321_4 ge321_4; clear hcc321 hce321; have qi321 : (0 < t314.length) = True := eq_true (by omega); (try rw [show ((0 : Int)).toNat = 0 from rfl] at hx321_0); (try rw [show 0 * 6 = 0 from rfl] at hx321_0); (try rw [Addr.add_zero'] at hx321_0); (try rw [show ((0 : Int)).toNat = 0 from rfl] at hx321_1); (try rw [show 0 * 6 = 0 from rfl] at hx321_1); (try rw [Addr.add_zero'] at hx321_1); (try rw [show ((0 : Int)).toNat = 0 from rfl] at hx321_2); (try rw [show 0 * 6 = 0 from rfl] at hx321_2); (try rw [Addr.add_zero'] at hx321_2); (try rw [show ((0 : Int)).toNat = 0 from rfl] at hx321_3); (try rw [show 0 * 6 = 0 from rfl] at hx321_3); (try rw [Addr.add_zero'] at hx321_3); (try rw [show ((0 : Int)).toNat = 0 from rfl] at hx321_4); (try rw [show 0 * 6 = 0 from rfl] at hx321_4); (try rw [Addr.add_zero'] at hx321_4); (try rw [show ((0 : Int)).toNat = 0 from rfl] at hx321_5); (try rw [show 0 * 6 = 0 from rfl] at hx321_5); (try rw [Addr.add_zero'] at hx321_5); have HR321_4 := Aside0.mk hi321_4; have HC321_4 := Aside0.mk hl321_4; clear hi321_4 hl321_4; replace p321 := eq_true p321; replace q321 := eq_true q321; have ea_ := Option.some.inj (hx319_4.symm.trans hx321_4); injection ea_ with ea_ en_ ec_; subst ea_; subst ec_; clear en_; have p322 : 0 ≤ (x6_1 : Int) := of_decide_eq_true (by first | (with_reducible assumption) | assumption); have q322 : x6_1 < (t302.length : Int) := of_decide_eq_true (by first | (with_reducible assumption) | assumption); obtain ⟨ad322, A322_4, c322_4, e322, hx322_0, hx322_1, hx322_2, hx322_3, hx322_4, hx322_5, hl322_4, hi322_4⟩ := at_T39 (Kd.S_reads' HO_3.out).2.2 x6_1 p322 q322; obtain rfl : ad309 = ad322 := (by injection e322); obtain ⟨ce322, hce322, hMe322, hcc322⟩ := Kd.S_get HO_3.out z39 x6_1 p322 (by first | exact q322 | exact of_decide_eq_true (by first | (with_reducible assumption) | assumption) | (have e_ := (Kd.S_reads' HO_3.out).1; omega)); obtain ⟨ve322_4, rfl, ge322_4⟩ := k39_openM hMe322; have hv322_4 := hcc322 4 _ rfl; rw [add_field _ _ 4 (by omega)] at hv322_4; replace hv322_4 := Option.some.inj (hv322_4.symm.trans hx322_4); rw [hv322_4] at ge322_4; have HL322_4 := Aside0.mk (show Kd.R k41 41 _ _ _ _ ((rd_T39 t302 x6_1).f4) from ge322_4); clear hv322_4 ge322_4; clear hcc322 hce322; have HR322_4 := Aside0.mk hi322_4; have HC322_4 := Aside0.mk hl322_4; clear hi322_4 hl322_4; replace p322 := eq_true p322; replace q322 := eq_true q322; have ea_ := Option.some.inj (hx320_4.symm.trans hx322_4); injection ea_ with ea_ en_ ec_; subst ea_; subst ec_; clear en_; have p323 : 0 ≤ (0 : Int) := (by omega); have q323 : 0 < (t314.length : Int) := of_decide_eq_true (by first | (with_reducible assumption) | assumption); obtain ⟨ad323, A323_4, c323_4, e323, hx323_0, hx323_1, hx323_2, hx323_3, hx323_4, hx323_5, hl323_4, hi323_4⟩ := at_T39 (Kd.S_reads' HO318.out).2.2 0 p323 q323; obtain rfl : ad319 = ad323 := (by injection e323); obtain ⟨ce323, hce323, hMe323, hcc323⟩ := Kd.S_get HO318.out z39 0 p323 (by first | exact q323 | exact of_decide_eq_true (by first | (with_reducible assumption) | assumption) | (have e_ := (Kd.S_reads' HO318.out).1; omega)); obtain ⟨ve323_4, rfl, ge323_4⟩ := k39_openM hMe323; have hv323_4 := hcc323 4 _ rfl; rw [add_field _ _ 4 (by omega)] at hv323_4; replace hv323_4 := Option.some.inj (hv323_4.symm.trans hx323_4); rw [hv323_4] at ge323_4; have HL323_4 := Aside0.mk (show Kd.R k41 41 _ _ _ _ ((rd_T39 t314 0).f4) from ge323_4); clear hv323_4 ge323_4; clear hcc323 hce323; have qi323 : (0 < t314.length) = True := eq_true (by omega); (try rw [show ((0 : Int)).toNat = 0 from rfl] at hx323_0); (try rw [show 0 * 6 = 0 from rfl] at hx323_0); (try rw [Addr.add_zero'] at hx323_0); (try rw [show ((0 : Int)).toNat = 0 from rfl] at hx323_1); (try rw [show 0 * 6 = 0 from rfl] at hx323_1); (try rw [Addr.add_zero'] at hx323_1); (try rw [show ((0 : Int)).toNat = 0 from rfl] at hx323_2); (try rw [show 0 * 6 = 0 from rfl] at hx323_2); (try rw [Addr.add_zero'] at hx323_2); (try rw [show ((0 : Int)).toNat = 0 from rfl] at hx323_3); (try rw [show 0 * 6 = 0 from rfl] at hx323_3); (try rw [Addr.add_zero'] at hx323_3); (try rw [show ((0 : Int)).toNat = 0 from rfl] at hx323_4); (try rw [show 0 * 6 = 0 from rfl] at hx323_4); (try rw [Addr.add_zero'] at hx323_4); (try rw [show ((0 : Int)).toNat = 0 from rfl] at hx323_5); (try rw [show 0 * 6 = 0 from rfl] at hx323_5); (try rw [Addr.add_zero'] at hx323_5); have HR323_4 := Aside0.mk hi323_4; have HC323_4 := Aside0.mk hl323_4; clear hi323_4 hl323_4; replace p323 := eq_true p323; replace q323 := eq_true q323; have ea_ := Option.some.inj (hx319_4.symm.trans hx323_4); injection ea_ with ea_ en_ ec_; subst ea_; subst ec_; clear en_; have p324 : 0 ≤ (x6_1 : Int) := of_decide_eq_true (by first | (with_reducible assumption) | assumption); have q324 : x6_1 < (t302.length : Int) := of_decide_eq_true (by first | (with_reducible assumption) | assumption); obtain ⟨ad324, A324_4, c324_4, e324, hx324_0, hx324_1, hx324_2, hx324_3, hx324_4, hx324_5, hl324_4, hi324_4⟩ := at_T39 (Kd.S_reads' HO_3.out).2.2 x6_1 p324 q324; obtain rfl : ad309 = ad324 := (by injection e324); obtain ⟨ce324, hce324, hMe324, hcc324⟩ := Kd.S_get HO_3.out z39 x6_1 p324 (by first | exact q324 | exact of_decide_eq_true (by first | (with_reducible assumption) | assumption) | (have e_ := (Kd.S_reads' HO_3.out).1; omega)); obtain ⟨ve324_4, rfl, ge324_4⟩ := k39_openM hMe324; have hv324_4 := hcc324 4 _ rfl; rw [add_field _ _ 4 (by omega)] at hv324_4; replace hv324_4 := Option.some.inj (hv324_4.symm.trans hx324_4); rw [hv324_4] at ge324_4; have HL324_4 := Aside0.mk (show Kd.R k41 41 _ _ _ _ ((rd_T39 t302 x6_1).f4) from ge324_4); clear hv324_4 ge324_4; clear hcc324 hce324; have HR324_4 := Aside0.mk hi324_4; have HC324_4 := Aside0.mk hl324_4; clear hi324_4 hl324_4; replace p324 := eq_true p324; replace q324 := eq_true q324; have ea_ := Option.some.inj (hx320_4.symm.trans hx324_4); injection ea_ with ea_ en_ ec_; subst ea_; subst ec_; clear en_; have p325 : 0 ≤ (0 : Int) := (by omega); have q325 : 0 < (t314.length : Int) := of_decide_eq_true (by first | (with_reducible assumption) | assumption); obtain ⟨ad325, A325_4, c325_4, e325, hx325_0, hx325_1, hx325_2, hx325_3, hx325_4, hx325_5, hl325_4, hi325_4⟩ := at_T39 (Kd.S_reads' HO318.out).2.2 0 p325 q325; obtain rfl : ad319 = ad325 := (by injection e325); obtain ⟨ce325, hce325, hMe325, hcc325⟩ := Kd.S_get HO318.out z39 0 p325 (by first | exact q325 | exact of_decide_eq_true (by first | (with_reducible assumption) | assumption) | (have e_ := (Kd.S_reads' HO318.out).1; omega)); obtain ⟨ve325_4, rfl, ge325_4⟩ := k39_openM hMe325; have hv325_4 := hcc325 4 _ rfl; rw [add_field _ _ 4 (by omega)] at hv325_4; replace hv325_4 := Option.some.inj (hv325_4.symm.trans hx325_4); rw [hv325_4] at ge325_4; have HL325_4 := Aside0.mk (show Kd.R k41 41 _ _ _ _ ((rd_T39 t314 0).f4) from ge325_4); clear hv325_4 ge325_4; clear hcc325 hce325; have qi325 : (0 < t314.length) = True := eq_true (by omega); (try rw [show ((0 : Int)).toNat = 0 from rfl] at hx325_0); (try rw [show 0 * 6 = 0 from rfl] at hx325_0); (try rw [Addr.add_zero'] at hx325_0); (try rw [show ((0 : Int)).toNat = 0 from rfl] at hx325_1); (try rw [show 0 * 6 = 0 from rfl] at hx325_1); (try rw [Addr.add_zero'] at hx325_1); (try rw [show ((0 : Int)).toNat = 0 from rfl] at hx325_2); (try rw [show 0 * 6 = 0 from rfl] at hx325_2); (try rw [Addr.add_zero'] at hx325_2); (try rw [show ((0 : Int)).toNat = 0 from rfl] at hx325_3); (try rw [show 0 * 6 = 0 from rfl] at hx325_3); (try rw [Addr.add_zero'] at hx325_3); (try rw [show ((0 : Int)).toNat = 0 from rfl] at hx325_4); (try rw [show 0 * 6 = 0 from rfl] at hx325_4); (try rw [Addr.add_zero'] at hx325_4); (try rw [show ((0 : Int)).toNat = 0 from rfl] at hx325_5); (try rw [show 0 * 6 = 0 from rfl] at hx325_5); (try rw [Addr.add_zero'] at hx325_5); have HR325_4 := Aside0.mk hi325_4; have HC325_4 := Aside0.mk hl325_4; clear hi325_4 hl325_4; replace p325 := eq_true p325; replace q325 := eq_true q325; have ea_ := Option.some.inj (hx319_4.symm.trans hx325_4); injection ea_ with ea_ en_ ec_; subst ea_; subst ec_; clear en_)))
                                      go_roundg kj10
                                      case measure => have := HK1.out; have := HJ10.out; omega
                                      case rel => exact ⟨(wrap64 (x6_1 + 1)), (by first | rfl | (simp; done) | exact congrArg Value.bool (nemp _) | exact congrArg Value.bool (emp _) | (simp [*]; done)), H', ⟨by have := HK1.out; have := HJ10.out; omega⟩, ⟨by (with_reducible repeat (first | apply Kd.S_alloc | apply Kd.S_drewN | apply Kd.S_drew)); exact Kd.S_mono HO_3.out (fun _ hk => trivial)⟩, ⟨by repeat (first | (with_reducible first | exact HB.out | apply below_alloc | apply pw_below_drewN | apply below_drew1) | exact HB.out)⟩⟩
                                    · rw [if_neg c42] at H
                                      have c42b0 : (((rd_T39 t314 0).f1) == 0) = false := beq_eq_false_iff_ne.mpr c42
                                      have c42b1 : (((rd_T39 t314 0).f1) != 0) = true := bne_iff_ne.mpr c42
                                      exact absurd ((Option.some.inj H).trans HLAW.out) (by decide)
                                  · rw [if_neg c41] at H
                                    have c41b0 : (((rd_T39 t314 0).f3).toList == ((rd_T39 t302 x6_1).f3).toList) = false := beq_eq_false_iff_ne.mpr c41
                                    have c41b1 : (((rd_T39 t314 0).f3).toList != ((rd_T39 t302 x6_1).f3).toList) = true := bne_iff_ne.mpr c41
                                    exact absurd ((Option.some.inj H).trans HLAW.out) (by decide)
                                · rw [if_neg c40] at H
                                  have c40b0 : (((rd_T39 t314 0).f2).toList == ((rd_T39 t302 x6_1).f2).toList) = false := beq_eq_false_iff_ne.mpr c40
                                  have c40b1 : (((rd_T39 t314 0).f2).toList != ((rd_T39 t302 x6_1).f2).toList) = true := bne_iff_ne.mpr c40
                                  exact absurd ((Option.some.inj H).trans HLAW.out) (by decide)
                              · rw [if_neg c39] at H
                                have c39b0 : (((rd_T39 t314 0).f0) == ((rd_T39 t302 x6_1).f0)) = false := beq_eq_false_iff_ne.mpr c39
                                have c39b1 : (((rd_T39 t314 0).f0) != ((rd_T39 t302 x6_1).f0)) = true := bne_iff_ne.mpr c39
                                exact absurd ((Option.some.inj H).trans HLAW.out) (by decide)
                            · rw [if_neg c38] at H
                              exact absurd H (by simp)
                          · rw [if_neg c37] at H
                            have c37b0 : (t316 == 0) = false := beq_eq_false_iff_ne.mpr c37
                            have c37b1 : (t316 != 0) = true := bne_iff_ne.mpr c37
                            exact absurd ((Option.some.inj H).trans HLAW.out) (by decide)
                      · rw [if_neg c34] at H
                        exact absurd H (by simp)
                    · rw [if_neg c33] at H
                      exact absurd H (by simp)
            · rw [if_neg c10] at H
              exact absurd H (by simp)
          · rw [if_neg c9] at H
            have c9b0 : decide (x6_1 < (t302.length : Int)) = false := decide_eq_false c9
            clear c9
            replace H := Option.bind_eq_some_iff.mp H
            obtain ⟨t308, A450, H⟩ := H
            replace H : (if t308 = true then (some true) else (some false)) = some r := H
            have A45 := Aside0.mk A450
            clear A450
            by_cases c46 : t308 = true
            · subst c46
              have H1 : (some true) = some r := by rw [if_pos rfl] at H; exact H
              clear H
              have H := H1
              clear H1
              obtain rfl := Option.some.inj H
              obtain ⟨Ao47, co47, eo47⟩ := Kd.S_slice HO_3.out
              subst eo47
              go_wp2_with (first | (go_at_call 20; (with_reducible refine (cardexlaw08_awake.calls k1  true _ A45.out (tabs_b HT.out (by repeat (first | (with_reducible first | exact HB.out | apply below_alloc | apply pw_below_drewN | apply below_drew1) | exact HB.out)))).mono ?_); rintro e w48 ⟨rfl, hb⟩; have n0_ := Aside0.mk (Kd.S_below (by (with_reducible repeat (first | apply Kd.S_alloc | apply Kd.S_drewN | apply Kd.S_drew)); exact HO_3.out) hb); have n1_ := Aside0.mk (below_step (by repeat (first | (with_reducible first | exact HB.out | apply below_alloc | apply pw_below_drewN | apply below_drew1) | exact HB.out)) hb); clear HO_3; clear HB; have HO_3 := n0_; have HB := n1_; clear n0_ n1_; (try clear hb); (try clear hb2); (try clear hk); (try clear hi)))
              repeat (go_quiet (first | (go_at_call 20; (with_reducible refine (cardexlaw08_awake.calls k1  true _ A45.out (tabs_b HT.out (by repeat (first | (with_reducible first | exact HB.out | apply below_alloc | apply pw_below_drewN | apply below_drew1) | exact HB.out)))).mono ?_); rintro e w48 ⟨rfl, hb⟩; have n0_ := Aside0.mk (Kd.S_below (by (with_reducible repeat (first | apply Kd.S_alloc | apply Kd.S_drewN | apply Kd.S_drew)); exact HO_3.out) hb); have n1_ := Aside0.mk (below_step (by repeat (first | (with_reducible first | exact HB.out | apply below_alloc | apply pw_below_drewN | apply below_drew1) | exact HB.out)) hb); clear HO_3; clear HB; have HO_3 := n0_; have HB := n1_; clear n0_ n1_; (try clear hb); (try clear hb2); (try clear hk); (try clear hi))); try go_wp2_with (first | (go_at_call 20; (with_reducible refine (cardexlaw08_awake.calls k1  true _ A45.out (tabs_b HT.out (by repeat (first | (with_reducible first | exact HB.out | apply below_alloc | apply pw_below_drewN | apply below_drew1) | exact HB.out)))).mono ?_); rintro e w48 ⟨rfl, hb⟩; have n0_ := Aside0.mk (Kd.S_below (by (with_reducible repeat (first | apply Kd.S_alloc | apply Kd.S_drewN | apply Kd.S_drew)); exact HO_3.out) hb); have n1_ := Aside0.mk (below_step (by repeat (first | (with_reducible first | exact HB.out | apply below_alloc | apply pw_below_drewN | apply below_drew1) | exact HB.out)) hb); clear HO_3; clear HB; have HO_3 := n0_; have HB := n1_; clear n0_ n1_; (try clear hb); (try clear hb2); (try clear hk); (try clear hi))))
              go_ret
              exact ⟨by first | rfl | (simp only [nemp]; rfl) | (simp [errW_none, errW_some] <;> rfl) | (simp [*, errW_none, errW_some] <;> rfl), by repeat (first | (with_reducible first | exact HB.out | apply below_alloc | apply pw_below_drewN | apply below_drew1) | exact HB.out)⟩
            · replace c46 := Bool.eq_false_iff.mpr c46
              subst c46
              have H1 : (some false) = some r := by rw [if_neg (show ¬ (false = true) by decide)] at H; exact H
              clear H
              have H := H1
              clear H1
              exact absurd ((Option.some.inj H).trans HLAW.out) (by decide)
    · rw [if_neg c7] at H
      have c7b0 : (t304 == 0) = false := beq_eq_false_iff_ne.mpr c7
      have c7b1 : (t304 != 0) = true := bne_iff_ne.mpr c7
      replace H := Option.bind_eq_some_iff.mp H
      obtain ⟨t307, A490, H⟩ := H
      replace H : (if t307 = true then (if (t302.length : Int) = 0 then (some true) else (some false)) else (some false)) = some r := H
      have A49 := Aside0.mk A490
      clear A490
      by_cases c50 : t307 = true
      · subst c50
        have H1 : (if (t302.length : Int) = 0 then (some true) else (some false)) = some r := by rw [if_pos rfl] at H; exact H
        clear H
        have H := H1
        clear H1
        by_cases c51 : (t302.length : Int) = 0
        · rw [if_pos c51] at H
          have c51b0 : ((t302.length : Int) == 0) = true := beq_iff_eq.mpr c51
          have c51b1 : ((t302.length : Int) != 0) = false := bne_eq_false_iff_eq.mpr c51
          clear c51
          obtain rfl := Option.some.inj H
          go_enter Tryd.func9, Tryd.ntmps9
          go_wp2_with (first | (go_at_call 21; (with_reducible refine (token_Tokens.calls k a0 t302 t303 t304 _ A6.out (tabs_b HT.out (by repeat (first | (with_reducible first | exact HB.out | apply below_alloc | apply pw_below_drewN | apply below_drew1) | exact HB.out)))).mono ?_); rintro e w52 ⟨v305, rfl, ho0, hb⟩; have n0_ := Aside0.mk (Kd.S_lower ho0 (below_size (by repeat (first | (with_reducible first | exact HB.out | apply below_alloc | apply pw_below_drewN | apply below_drew1) | exact HB.out)))); have n1_ := Aside0.mk (below_step (by repeat (first | (with_reducible first | exact HB.out | apply below_alloc | apply pw_below_drewN | apply below_drew1) | exact HB.out)) hb); clear HB; have HO306 := n0_; have HB := n1_; clear n0_ n1_; (try clear hb); (try clear hb2); (try clear hk); (try clear hi); (try clear ho0)) | (go_at_call 20; (with_reducible refine (cardexlaw08_awake.calls k  true _ A49.out (tabs_b HT.out (by repeat (first | (with_reducible first | exact HB.out | apply below_alloc | apply pw_below_drewN | apply below_drew1) | exact HB.out)))).mono ?_); rintro e w53 ⟨rfl, hb⟩; have n0_ := Aside0.mk (Kd.S_below (by (with_reducible repeat (first | apply Kd.S_alloc | apply Kd.S_drewN | apply Kd.S_drew)); exact HO306.out) hb); have n1_ := Aside0.mk (below_step (by repeat (first | (with_reducible first | exact HB.out | apply below_alloc | apply pw_below_drewN | apply below_drew1) | exact HB.out)) hb); clear HO306; clear HB; have HO306 := n0_; have HB := n1_; clear n0_ n1_; (try clear hb); (try clear hb2); (try clear hk); (try clear hi); obtain ⟨Ao54, co54, eo54⟩ := Kd.S_slice HO306.out; subst eo54))
          repeat (go_quiet (first | (go_at_call 21; (with_reducible refine (token_Tokens.calls k a0 t302 t303 t304 _ A6.out (tabs_b HT.out (by repeat (first | (with_reducible first | exact HB.out | apply below_alloc | apply pw_below_drewN | apply below_drew1) | exact HB.out)))).mono ?_); rintro e w52 ⟨v305, rfl, ho0, hb⟩; have n0_ := Aside0.mk (Kd.S_lower ho0 (below_size (by repeat (first | (with_reducible first | exact HB.out | apply below_alloc | apply pw_below_drewN | apply below_drew1) | exact HB.out)))); have n1_ := Aside0.mk (below_step (by repeat (first | (with_reducible first | exact HB.out | apply below_alloc | apply pw_below_drewN | apply below_drew1) | exact HB.out)) hb); clear HB; have HO306 := n0_; have HB := n1_; clear n0_ n1_; (try clear hb); (try clear hb2); (try clear hk); (try clear hi); (try clear ho0)) | (go_at_call 20; (with_reducible refine (cardexlaw08_awake.calls k  true _ A49.out (tabs_b HT.out (by repeat (first | (with_reducible first | exact HB.out | apply below_alloc | apply pw_below_drewN | apply below_drew1) | exact HB.out)))).mono ?_); rintro e w53 ⟨rfl, hb⟩; have n0_ := Aside0.mk (Kd.S_below (by (with_reducible repeat (first | apply Kd.S_alloc | apply Kd.S_drewN | apply Kd.S_drew)); exact HO306.out) hb); have n1_ := Aside0.mk (below_step (by repeat (first | (with_reducible first | exact HB.out | apply below_alloc | apply pw_below_drewN | apply below_drew1) | exact HB.out)) hb); clear HO306; clear HB; have HO306 := n0_; have HB := n1_; clear n0_ n1_; (try clear hb); (try clear hb2); (try clear hk); (try clear hi); obtain ⟨Ao54, co54, eo54⟩ := Kd.S_slice HO306.out; subst eo54)); try go_wp2_with (first | (go_at_call 21; (with_reducible refine (token_Tokens.calls k a0 t302 t303 t304 _ A6.out (tabs_b HT.out (by repeat (first | (with_reducible first | exact HB.out | apply below_alloc | apply pw_below_drewN | apply below_drew1) | exact HB.out)))).mono ?_); rintro e w52 ⟨v305, rfl, ho0, hb⟩; have n0_ := Aside0.mk (Kd.S_lower ho0 (below_size (by repeat (first | (with_reducible first | exact HB.out | apply below_alloc | apply pw_below_drewN | apply below_drew1) | exact HB.out)))); have n1_ := Aside0.mk (below_step (by repeat (first | (with_reducible first | exact HB.out | apply below_alloc | apply pw_below_drewN | apply below_drew1) | exact HB.out)) hb); clear HB; have HO306 := n0_; have HB := n1_; clear n0_ n1_; (try clear hb); (try clear hb2); (try clear hk); (try clear hi); (try clear ho0)) | (go_at_call 20; (with_reducible refine (cardexlaw08_awake.calls k  true _ A49.out (tabs_b HT.out (by repeat (first | (with_reducible first | exact HB.out | apply below_alloc | apply pw_below_drewN | apply below_drew1) | exact HB.out)))).mono ?_); rintro e w53 ⟨rfl, hb⟩; have n0_ := Aside0.mk (Kd.S_below (by (with_reducible repeat (first | apply Kd.S_alloc | apply Kd.S_drewN | apply Kd.S_drew)); exact HO306.out) hb); have n1_ := Aside0.mk (below_step (by repeat (first | (with_reducible first | exact HB.out | apply below_alloc | apply pw_below_drewN | apply below_drew1) | exact HB.out)) hb); clear HO306; clear HB; have HO306 := n0_; have HB := n1_; clear n0_ n1_; (try clear hb); (try clear hb2); (try clear hk); (try clear hi); obtain ⟨Ao54, co54, eo54⟩ := Kd.S_slice HO306.out; subst eo54)))
          go_ret
          exact ⟨by first | rfl | (simp only [nemp]; rfl) | (simp [errW_none, errW_some] <;> rfl) | (simp [*, errW_none, errW_some] <;> rfl), by repeat (first | (with_reducible first | exact HB.out | apply below_alloc | apply pw_below_drewN | apply below_drew1) | exact HB.out)⟩
        · rw [if_neg c51] at H
          have c51b0 : ((t302.length : Int) == 0) = false := beq_eq_false_iff_ne.mpr c51
          have c51b1 : ((t302.length : Int) != 0) = true := bne_iff_ne.mpr c51
          have c51b2 : ¬ (t302 = []) := fun h_ => c51 (by rw [h_]; rfl)
          exact absurd ((Option.some.inj H).trans HLAW.out) (by decide)
      · replace c50 := Bool.eq_false_iff.mpr c50
        subst c50
        have H1 : (some false) = some r := by rw [if_neg (show ¬ (false = true) by decide)] at H; exact H
        clear H
        have H := H1
        clear H1
        exact absurd ((Option.some.inj H).trans HLAW.out) (by decide)
end Go.Proofs.YtjijbncheikagaaDoor.Q
