-- Written by hookprint.py (wip/) of this session: the kit's print with hand-proved functions beside it. Not trusted: Lean checks it.
import Derived.Test.YtjijbncheikagaaGreatDoorQ0
import Derived.Test.YtjijbncheikagaaGreatDoorQ6
namespace Go.Proofs.YtjijbncheikagaaGreatDoor.Q
open List (setIfInBounds_toArray set_cons_zero set_cons_succ)
open Go.RowKit Go.Lib Go.Proofs.YtjijbncheikagaaGreatDoorX Go.Proofs.YtjijbncheikagaaGreatDoorW.PrintWords Go.Proofs.YtjijbncheikagaaGreatDoorW.PrintLast Go.Proofs.YtjijbncheikagaaGreatDoorW.PrintMore
set_option linter.unusedVariables false
set_option linter.unusedSimpArgs false
def cardexlaw08_awake.f (k : Nat)  : Option (Bool) := (token_Tokens.f k (⟨#[60, 97, 62, 120, 60, 47, 97, 62]⟩ : ByteArray)).bind fun bt289 => ((token_Tokens.f k (⟨#[60, 97, 62, 60]⟩ : ByteArray)).bind fun bt294 => (if bt289.2.2 = 0 then (if bt289.2.1 = 0 then (if (bt289.1.length : Int) = 3 then (if 1 < (bt289.1.length : Int) then (if ((rd_T30 bt289.1 1).f3).toList = ([120] : List UInt8) then (if ((rd_T30 bt289.1 1).f1) = 3 then (if bt294.2.2 = 5 then (some (bt294.2.1 == 3)) else (some false)) else (some false)) else (some false)) else (none)) else (some false)) else (some false)) else (some false)))
theorem cardexlaw08_awake.mono : ∀ k, LeO (cardexlaw08_awake.f k ) (cardexlaw08_awake.f (k + 1) ) := by
  intro  k
  unfold cardexlaw08_awake.f
  repeat' first
      | (with_reducible exact token_Tokens.mono _ _)
      | (with_reducible exact LeO.refl _)
      | (with_reducible exact LeO.none _)
      | (with_reducible refine LeO.ite ?_ ?_)
      | (with_reducible refine LeO.bind ?_ (fun _ => ?_))
      | exact token_Tokens.mono _ _
      | exact LeO.none _
      | refine LeO.ite ?_ ?_
      | refine LeO.bind ?_ (fun _ => ?_)
set_option maxHeartbeats 8000000 in
set_option maxRecDepth 100000 in
theorem cardexlaw08_awake.calls (k : Nat)  (r : Bool) (w : World) (h : cardexlaw08_awake.f k  = some r) (hT : Tabs w) :
    Calls Tryz.prog 4 #[] w fun e w' => e = .returned (.bool r) ∧ Below w.heap.size w w' := by
  have HT := Aside0.mk hT
  clear hT
  have HB := Aside0.mk (Below.refl w.heap.size w)
  have H : ((token_Tokens.f k (⟨#[60, 97, 62, 120, 60, 47, 97, 62]⟩ : ByteArray)).bind fun bt289 => ((token_Tokens.f k (⟨#[60, 97, 62, 60]⟩ : ByteArray)).bind fun bt294 => (if bt289.2.2 = 0 then (if bt289.2.1 = 0 then (if (bt289.1.length : Int) = 3 then (if 1 < (bt289.1.length : Int) then (if ((rd_T30 bt289.1 1).f3).toList = ([120] : List UInt8) then (if ((rd_T30 bt289.1 1).f1) = 3 then (if bt294.2.2 = 5 then (some (bt294.2.1 == 3)) else (some false)) else (some false)) else (some false)) else (none)) else (some false)) else (some false)) else (some false)))) = some r := h
  clear h
  replace H := Option.bind_eq_some_iff.mp H
  obtain ⟨⟨t289, t290, t291⟩, A10, H⟩ := H
  replace H : ((token_Tokens.f k (⟨#[60, 97, 62, 60]⟩ : ByteArray)).bind fun bt294 => (if t291 = 0 then (if t290 = 0 then (if (t289.length : Int) = 3 then (if 1 < (t289.length : Int) then (if ((rd_T30 t289 1).f3).toList = ([120] : List UInt8) then (if ((rd_T30 t289 1).f1) = 3 then (if bt294.2.2 = 5 then (some (bt294.2.1 == 3)) else (some false)) else (some false)) else (some false)) else (none)) else (some false)) else (some false)) else (some false))) = some r := H
  have A1 := Aside0.mk A10
  clear A10
  replace H := Option.bind_eq_some_iff.mp H
  obtain ⟨⟨t294, t295, t296⟩, A20, H⟩ := H
  replace H : (if t291 = 0 then (if t290 = 0 then (if (t289.length : Int) = 3 then (if 1 < (t289.length : Int) then (if ((rd_T30 t289 1).f3).toList = ([120] : List UInt8) then (if ((rd_T30 t289 1).f1) = 3 then (if t296 = 5 then (some (t295 == 3)) else (some false)) else (some false)) else (some false)) else (none)) else (some false)) else (some false)) else (some false)) = some r := H
  have A2 := Aside0.mk A20
  clear A20
  by_cases c3 : t291 = 0
  · rw [if_pos c3] at H
    have c3b0 : (t291 == 0) = true := beq_iff_eq.mpr c3
    have c3b1 : (t291 != 0) = false := bne_eq_false_iff_eq.mpr c3
    clear c3
    by_cases c4 : t290 = 0
    · rw [if_pos c4] at H
      have c4b0 : (t290 == 0) = true := beq_iff_eq.mpr c4
      have c4b1 : (t290 != 0) = false := bne_eq_false_iff_eq.mpr c4
      clear c4
      by_cases c5 : (t289.length : Int) = 3
      · rw [if_pos c5] at H
        have c5b0 : ((t289.length : Int) == 3) = true := beq_iff_eq.mpr c5
        have c5b1 : ((t289.length : Int) != 3) = false := bne_eq_false_iff_eq.mpr c5
        clear c5
        by_cases c6 : 1 < (t289.length : Int)
        · rw [if_pos c6] at H
          have c6b0 : decide (1 < (t289.length : Int)) = true := decide_eq_true c6
          have c6b1 : decide (1 < t289.length) = true := decide_eq_true (by omega)
          clear c6
          by_cases c7 : ((rd_T30 t289 1).f3).toList = ([120] : List UInt8)
          · rw [if_pos c7] at H
            have c7b0 : (((rd_T30 t289 1).f3).toList == ([120] : List UInt8)) = true := beq_iff_eq.mpr c7
            have c7b1 : (((rd_T30 t289 1).f3).toList != ([120] : List UInt8)) = false := bne_eq_false_iff_eq.mpr c7
            clear c7
            by_cases c8 : ((rd_T30 t289 1).f1) = 3
            · rw [if_pos c8] at H
              have c8b0 : (((rd_T30 t289 1).f1) == 3) = true := beq_iff_eq.mpr c8
              have c8b1 : (((rd_T30 t289 1).f1) != 3) = false := bne_eq_false_iff_eq.mpr c8
              clear c8
              by_cases c9 : t296 = 5
              · rw [if_pos c9] at H
                have c9b0 : (t296 == 5) = true := beq_iff_eq.mpr c9
                have c9b1 : (t296 != 5) = false := bne_eq_false_iff_eq.mpr c9
                clear c9
                obtain rfl := Option.some.inj H
                go_enter Tryz.func4, Tryz.ntmps4
                go_wp2_with (first | ((with_reducible refine gate_callee (f := 5) rfl ?_); refine goesL_ (some 8) rfl rfl Tryz.func5 zz29 rfl #[.string (⟨#[60, 97, 62, 120, 60, 47, 97, 62]⟩ : ByteArray)] rfl zz1 ?_; (with_reducible refine (token_Tokens.calls k (⟨#[60, 97, 62, 120, 60, 47, 97, 62]⟩ : ByteArray) t289 t290 t291 _ A1.out (tabs_b HT.out zz0)).mono ?_); rintro e w10 ⟨v292, rfl, ho0, hb⟩; refine ⟨_, rfl, ?_⟩; have n0_ := Aside0.mk (Kd.S_lower ho0 (below_size zz0)); have n1_ := Aside0.mk (below_step zz0 hb); clear HB; have HO293 := n0_; have HB := n1_; clear n0_ n1_; (try clear hb); (try clear hb2); (try clear hk); (try clear hi); (try clear ho0)) | ((with_reducible refine gate_callee (f := 5) rfl ?_); refine goesL_ (some 13) rfl rfl Tryz.func5 zz29 rfl #[.string (⟨#[60, 97, 62, 60]⟩ : ByteArray)] rfl zz1 ?_; (with_reducible refine (token_Tokens.calls k (⟨#[60, 97, 62, 60]⟩ : ByteArray) t294 t295 t296 _ A2.out (tabs_b HT.out zz0)).mono ?_); rintro e w11 ⟨v297, rfl, ho0, hb⟩; refine ⟨_, rfl, ?_⟩; have n0_ := Aside0.mk (Kd.S_elder' zz46 (Kd.S_base ho0) hb); have n1_ := Aside0.mk (Kd.S_lower (Kd.S_new' ho0 (Kd.S_lt zz46)) (below_size zz0)); have n2_ := Aside0.mk (below_step zz0 hb); clear HO293; clear HB; have HO293 := n0_; have HO298 := n1_; have HB := n2_; clear n0_ n1_ n2_; (try clear hb); (try clear hb2); (try clear hk); (try clear hi); (try clear ho0); obtain ⟨Ao12, co12, eo12⟩ := Kd.S_slice HO293.out; subst eo12; have p299 : 0 ≤ (1 : Int) := (by omega); have q299 : 1 < (t289.length : Int) := of_decide_eq_true zz9; obtain ⟨ad299, A299_4, c299_4, e299, hx299_0, hx299_1, hx299_2, hx299_3, hx299_4, hx299_5, hl299_4, hi299_4⟩ := at_T30 (Kd.S_reads' HO293.out).2.2 1 p299 q299; cases e299; obtain ⟨ce299, hce299, hMe299, hcc299⟩ := Kd.S_get HO293.out z30 1 p299 (by first | exact q299 | exact of_decide_eq_true zz9 | (have e_ := (Kd.S_reads' HO293.out).1; omega)); obtain ⟨ve299_4, rfl, ge299_4⟩ := k30_openM hMe299; have hv299_4 := hcc299 4 _ rfl; rw [add_field _ _ 4 (by omega)] at hv299_4; replace hv299_4 := Option.some.inj (hv299_4.symm.trans hx299_4); rw [hv299_4] at ge299_4; have HL299_4 := Aside0.mk (show Kd.R k45 45 _ _ _ _ ((rd_T30 t289 1).f4) from ge299_4); clear hv299_4 ge299_4; clear hcc299 hce299; (try simp only [show (1 : Int).toNat = 1 from rfl, Nat.reduceMul, Nat.reduceEqDiff, Go.Addr.add, ↓reduceIte] at hx299_0); (try simp only [show (1 : Int).toNat = 1 from rfl, Nat.reduceMul, Nat.reduceEqDiff, Go.Addr.add, ↓reduceIte] at hx299_1); (try simp only [show (1 : Int).toNat = 1 from rfl, Nat.reduceMul, Nat.reduceEqDiff, Go.Addr.add, ↓reduceIte] at hx299_2); (try simp only [show (1 : Int).toNat = 1 from rfl, Nat.reduceMul, Nat.reduceEqDiff, Go.Addr.add, ↓reduceIte] at hx299_3); (try simp only [show (1 : Int).toNat = 1 from rfl, Nat.reduceMul, Nat.reduceEqDiff, Go.Addr.add, ↓reduceIte] at hx299_4); (try simp only [show (1 : Int).toNat = 1 from rfl, Nat.reduceMul, Nat.reduceEqDiff, Go.Addr.add, ↓reduceIte] at hx299_5); have qi299 : (1 < t289.length) = True := eq_true (by omega); (try rw [show ((1 : Int)).toNat = 1 from rfl] at hx299_0); (try rw [show 1 * 6 = 6 from rfl] at hx299_0); (try rw [show ((1 : Int)).toNat = 1 from rfl] at hx299_1); (try rw [show 1 * 6 = 6 from rfl] at hx299_1); (try rw [show ((1 : Int)).toNat = 1 from rfl] at hx299_2); (try rw [show 1 * 6 = 6 from rfl] at hx299_2); (try rw [show ((1 : Int)).toNat = 1 from rfl] at hx299_3); (try rw [show 1 * 6 = 6 from rfl] at hx299_3); (try rw [show ((1 : Int)).toNat = 1 from rfl] at hx299_4); (try rw [show 1 * 6 = 6 from rfl] at hx299_4); (try rw [show ((1 : Int)).toNat = 1 from rfl] at hx299_5); (try rw [show 1 * 6 = 6 from rfl] at hx299_5); have HR299_4 := Aside0.mk hi299_4; have HC299_4 := Aside0.mk hl299_4; clear hi299_4 hl299_4; replace p299 := eq_true p299; replace q299 := eq_true q299; have p300 : 0 ≤ (1 : Int) := (by omega); have q300 : 1 < (t289.length : Int) := of_decide_eq_true zz9; obtain ⟨ad300, A300_4, c300_4, e300, hx300_0, hx300_1, hx300_2, hx300_3, hx300_4, hx300_5, hl300_4, hi300_4⟩ := at_T30 (Kd.S_reads' HO293.out).2.2 1 p300 q300; obtain rfl : ad299 = ad300 := (by injection e300); obtain ⟨ce300, hce300, hMe300, hcc300⟩ := Kd.S_get HO293.out z30 1 p300 (by first | exact q300 | exact of_decide_eq_true zz9 | (have e_ := (Kd.S_reads' HO293.out).1; omega)); obtain ⟨ve300_4, rfl, ge300_4⟩ := k30_openM hMe300; have hv300_4 := hcc300 4 _ rfl; rw [add_field _ _ 4 (by omega)] at hv300_4; replace hv300_4 := Option.some.inj (hv300_4.symm.trans hx300_4); rw [hv300_4] at ge300_4; have HL300_4 := Aside0.mk (show Kd.R k45 45 _ _ _ _ ((rd_T30 t289 1).f4) from ge300_4); clear hv300_4 ge300_4; clear hcc300 hce300; (try simp only [show (1 : Int).toNat = 1 from rfl, Nat.reduceMul, Nat.reduceEqDiff, Go.Addr.add, ↓reduceIte] at hx300_0); (try simp only [show (1 : Int).toNat = 1 from rfl, Nat.reduceMul, Nat.reduceEqDiff, Go.Addr.add, ↓reduceIte] at hx300_1); (try simp only [show (1 : Int).toNat = 1 from rfl, Nat.reduceMul, Nat.reduceEqDiff, Go.Addr.add, ↓reduceIte] at hx300_2); (try simp only [show (1 : Int).toNat = 1 from rfl, Nat.reduceMul, Nat.reduceEqDiff, Go.Addr.add, ↓reduceIte] at hx300_3); (try simp only [show (1 : Int).toNat = 1 from rfl, Nat.reduceMul, Nat.reduceEqDiff, Go.Addr.add, ↓reduceIte] at hx300_4); (try simp only [show (1 : Int).toNat = 1 from rfl, Nat.reduceMul, Nat.reduceEqDiff, Go.Addr.add, ↓reduceIte] at hx300_5); have qi300 : (1 < t289.length) = True := eq_true (by omega); (try rw [show ((1 : Int)).toNat = 1 from rfl] at hx300_0); (try rw [show 1 * 6 = 6 from rfl] at hx300_0); (try rw [show ((1 : Int)).toNat = 1 from rfl] at hx300_1); (try rw [show 1 * 6 = 6 from rfl] at hx300_1); (try rw [show ((1 : Int)).toNat = 1 from rfl] at hx300_2); (try rw [show 1 * 6 = 6 from rfl] at hx300_2); (try rw [show ((1 : Int)).toNat = 1 from rfl] at hx300_3); (try rw [show 1 * 6 = 6 from rfl] at hx300_3); (try rw [show ((1 : Int)).toNat = 1 from rfl] at hx300_4); (try rw [show 1 * 6 = 6 from rfl] at hx300_4); (try rw [show ((1 : Int)).toNat = 1 from rfl] at hx300_5); (try rw [show 1 * 6 = 6 from rfl] at hx300_5); have HR300_4 := Aside0.mk hi300_4; have HC300_4 := Aside0.mk hl300_4; clear hi300_4 hl300_4; replace p300 := eq_true p300; replace q300 := eq_true q300; have ea_ := Option.some.inj (hx299_4.symm.trans hx300_4); injection ea_ with ea_ en_ ec_; subst ea_; subst ec_; clear en_))
                go_ret
                exact ⟨zz4, zz0⟩
              · rw [if_neg c9] at H
                have c9b0 : (t296 == 5) = false := beq_eq_false_iff_ne.mpr c9
                have c9b1 : (t296 != 5) = true := bne_iff_ne.mpr c9
                obtain rfl := Option.some.inj H
                go_enter Tryz.func4, Tryz.ntmps4
                go_wp2_with (first | ((with_reducible refine gate_callee (f := 5) rfl ?_); refine goesL_ (some 8) rfl rfl Tryz.func5 zz29 rfl #[.string (⟨#[60, 97, 62, 120, 60, 47, 97, 62]⟩ : ByteArray)] rfl zz1 ?_; (with_reducible refine (token_Tokens.calls k (⟨#[60, 97, 62, 120, 60, 47, 97, 62]⟩ : ByteArray) t289 t290 t291 _ A1.out (tabs_b HT.out zz0)).mono ?_); rintro e w13 ⟨v292, rfl, ho0, hb⟩; refine ⟨_, rfl, ?_⟩; have n0_ := Aside0.mk (Kd.S_lower ho0 (below_size zz0)); have n1_ := Aside0.mk (below_step zz0 hb); clear HB; have HO293 := n0_; have HB := n1_; clear n0_ n1_; (try clear hb); (try clear hb2); (try clear hk); (try clear hi); (try clear ho0)) | ((with_reducible refine gate_callee (f := 5) rfl ?_); refine goesL_ (some 13) rfl rfl Tryz.func5 zz29 rfl #[.string (⟨#[60, 97, 62, 60]⟩ : ByteArray)] rfl zz1 ?_; (with_reducible refine (token_Tokens.calls k (⟨#[60, 97, 62, 60]⟩ : ByteArray) t294 t295 t296 _ A2.out (tabs_b HT.out zz0)).mono ?_); rintro e w14 ⟨v297, rfl, ho0, hb⟩; refine ⟨_, rfl, ?_⟩; have n0_ := Aside0.mk (Kd.S_elder' zz46 (Kd.S_base ho0) hb); have n1_ := Aside0.mk (Kd.S_lower (Kd.S_new' ho0 (Kd.S_lt zz46)) (below_size zz0)); have n2_ := Aside0.mk (below_step zz0 hb); clear HO293; clear HB; have HO293 := n0_; have HO298 := n1_; have HB := n2_; clear n0_ n1_ n2_; (try clear hb); (try clear hb2); (try clear hk); (try clear hi); (try clear ho0); obtain ⟨Ao15, co15, eo15⟩ := Kd.S_slice HO293.out; subst eo15; have p299 : 0 ≤ (1 : Int) := (by omega); have q299 : 1 < (t289.length : Int) := of_decide_eq_true zz9; obtain ⟨ad299, A299_4, c299_4, e299, hx299_0, hx299_1, hx299_2, hx299_3, hx299_4, hx299_5, hl299_4, hi299_4⟩ := at_T30 (Kd.S_reads' HO293.out).2.2 1 p299 q299; cases e299; obtain ⟨ce299, hce299, hMe299, hcc299⟩ := Kd.S_get HO293.out z30 1 p299 (by first | exact q299 | exact of_decide_eq_true zz9 | (have e_ := (Kd.S_reads' HO293.out).1; omega)); obtain ⟨ve299_4, rfl, ge299_4⟩ := k30_openM hMe299; have hv299_4 := hcc299 4 _ rfl; rw [add_field _ _ 4 (by omega)] at hv299_4; replace hv299_4 := Option.some.inj (hv299_4.symm.trans hx299_4); rw [hv299_4] at ge299_4; have HL299_4 := Aside0.mk (show Kd.R k45 45 _ _ _ _ ((rd_T30 t289 1).f4) from ge299_4); clear hv299_4 ge299_4; clear hcc299 hce299; (try simp only [show (1 : Int).toNat = 1 from rfl, Nat.reduceMul, Nat.reduceEqDiff, Go.Addr.add, ↓reduceIte] at hx299_0); (try simp only [show (1 : Int).toNat = 1 from rfl, Nat.reduceMul, Nat.reduceEqDiff, Go.Addr.add, ↓reduceIte] at hx299_1); (try simp only [show (1 : Int).toNat = 1 from rfl, Nat.reduceMul, Nat.reduceEqDiff, Go.Addr.add, ↓reduceIte] at hx299_2); (try simp only [show (1 : Int).toNat = 1 from rfl, Nat.reduceMul, Nat.reduceEqDiff, Go.Addr.add, ↓reduceIte] at hx299_3); (try simp only [show (1 : Int).toNat = 1 from rfl, Nat.reduceMul, Nat.reduceEqDiff, Go.Addr.add, ↓reduceIte] at hx299_4); (try simp only [show (1 : Int).toNat = 1 from rfl, Nat.reduceMul, Nat.reduceEqDiff, Go.Addr.add, ↓reduceIte] at hx299_5); have qi299 : (1 < t289.length) = True := eq_true (by omega); (try rw [show ((1 : Int)).toNat = 1 from rfl] at hx299_0); (try rw [show 1 * 6 = 6 from rfl] at hx299_0); (try rw [show ((1 : Int)).toNat = 1 from rfl] at hx299_1); (try rw [show 1 * 6 = 6 from rfl] at hx299_1); (try rw [show ((1 : Int)).toNat = 1 from rfl] at hx299_2); (try rw [show 1 * 6 = 6 from rfl] at hx299_2); (try rw [show ((1 : Int)).toNat = 1 from rfl] at hx299_3); (try rw [show 1 * 6 = 6 from rfl] at hx299_3); (try rw [show ((1 : Int)).toNat = 1 from rfl] at hx299_4); (try rw [show 1 * 6 = 6 from rfl] at hx299_4); (try rw [show ((1 : Int)).toNat = 1 from rfl] at hx299_5); (try rw [show 1 * 6 = 6 from rfl] at hx299_5); have HR299_4 := Aside0.mk hi299_4; have HC299_4 := Aside0.mk hl299_4; clear hi299_4 hl299_4; replace p299 := eq_true p299; replace q299 := eq_true q299; have p300 : 0 ≤ (1 : Int) := (by omega); have q300 : 1 < (t289.length : Int) := of_decide_eq_true zz9; obtain ⟨ad300, A300_4, c300_4, e300, hx300_0, hx300_1, hx300_2, hx300_3, hx300_4, hx300_5, hl300_4, hi300_4⟩ := at_T30 (Kd.S_reads' HO293.out).2.2 1 p300 q300; obtain rfl : ad299 = ad300 := (by injection e300); obtain ⟨ce300, hce300, hMe300, hcc300⟩ := Kd.S_get HO293.out z30 1 p300 (by first | exact q300 | exact of_decide_eq_true zz9 | (have e_ := (Kd.S_reads' HO293.out).1; omega)); obtain ⟨ve300_4, rfl, ge300_4⟩ := k30_openM hMe300; have hv300_4 := hcc300 4 _ rfl; rw [add_field _ _ 4 (by omega)] at hv300_4; replace hv300_4 := Option.some.inj (hv300_4.symm.trans hx300_4); rw [hv300_4] at ge300_4; have HL300_4 := Aside0.mk (show Kd.R k45 45 _ _ _ _ ((rd_T30 t289 1).f4) from ge300_4); clear hv300_4 ge300_4; clear hcc300 hce300; (try simp only [show (1 : Int).toNat = 1 from rfl, Nat.reduceMul, Nat.reduceEqDiff, Go.Addr.add, ↓reduceIte] at hx300_0); (try simp only [show (1 : Int).toNat = 1 from rfl, Nat.reduceMul, Nat.reduceEqDiff, Go.Addr.add, ↓reduceIte] at hx300_1); (try simp only [show (1 : Int).toNat = 1 from rfl, Nat.reduceMul, Nat.reduceEqDiff, Go.Addr.add, ↓reduceIte] at hx300_2); (try simp only [show (1 : Int).toNat = 1 from rfl, Nat.reduceMul, Nat.reduceEqDiff, Go.Addr.add, ↓reduceIte] at hx300_3); (try simp only [show (1 : Int).toNat = 1 from rfl, Nat.reduceMul, Nat.reduceEqDiff, Go.Addr.add, ↓reduceIte] at hx300_4); (try simp only [show (1 : Int).toNat = 1 from rfl, Nat.reduceMul, Nat.reduceEqDiff, Go.Addr.add, ↓reduceIte] at hx300_5); have qi300 : (1 < t289.length) = True := eq_true (by omega); (try rw [show ((1 : Int)).toNat = 1 from rfl] at hx300_0); (try rw [show 1 * 6 = 6 from rfl] at hx300_0); (try rw [show ((1 : Int)).toNat = 1 from rfl] at hx300_1); (try rw [show 1 * 6 = 6 from rfl] at hx300_1); (try rw [show ((1 : Int)).toNat = 1 from rfl] at hx300_2); (try rw [show 1 * 6 = 6 from rfl] at hx300_2); (try rw [show ((1 : Int)).toNat = 1 from rfl] at hx300_3); (try rw [show 1 * 6 = 6 from rfl] at hx300_3); (try rw [show ((1 : Int)).toNat = 1 from rfl] at hx300_4); (try rw [show 1 * 6 = 6 from rfl] at hx300_4); (try rw [show ((1 : Int)).toNat = 1 from rfl] at hx300_5); (try rw [show 1 * 6 = 6 from rfl] at hx300_5); have HR300_4 := Aside0.mk hi300_4; have HC300_4 := Aside0.mk hl300_4; clear hi300_4 hl300_4; replace p300 := eq_true p300; replace q300 := eq_true q300; have ea_ := Option.some.inj (hx299_4.symm.trans hx300_4); injection ea_ with ea_ en_ ec_; subst ea_; subst ec_; clear en_))
                go_ret
                exact ⟨zz4, zz0⟩
            · rw [if_neg c8] at H
              have c8b0 : (((rd_T30 t289 1).f1) == 3) = false := beq_eq_false_iff_ne.mpr c8
              have c8b1 : (((rd_T30 t289 1).f1) != 3) = true := bne_iff_ne.mpr c8
              obtain rfl := Option.some.inj H
              go_enter Tryz.func4, Tryz.ntmps4
              go_wp2_with (first | ((with_reducible refine gate_callee (f := 5) rfl ?_); refine goesL_ (some 8) rfl rfl Tryz.func5 zz29 rfl #[.string (⟨#[60, 97, 62, 120, 60, 47, 97, 62]⟩ : ByteArray)] rfl zz1 ?_; (with_reducible refine (token_Tokens.calls k (⟨#[60, 97, 62, 120, 60, 47, 97, 62]⟩ : ByteArray) t289 t290 t291 _ A1.out (tabs_b HT.out zz0)).mono ?_); rintro e w16 ⟨v292, rfl, ho0, hb⟩; refine ⟨_, rfl, ?_⟩; have n0_ := Aside0.mk (Kd.S_lower ho0 (below_size zz0)); have n1_ := Aside0.mk (below_step zz0 hb); clear HB; have HO293 := n0_; have HB := n1_; clear n0_ n1_; (try clear hb); (try clear hb2); (try clear hk); (try clear hi); (try clear ho0)) | ((with_reducible refine gate_callee (f := 5) rfl ?_); refine goesL_ (some 13) rfl rfl Tryz.func5 zz29 rfl #[.string (⟨#[60, 97, 62, 60]⟩ : ByteArray)] rfl zz1 ?_; (with_reducible refine (token_Tokens.calls k (⟨#[60, 97, 62, 60]⟩ : ByteArray) t294 t295 t296 _ A2.out (tabs_b HT.out zz0)).mono ?_); rintro e w17 ⟨v297, rfl, ho0, hb⟩; refine ⟨_, rfl, ?_⟩; have n0_ := Aside0.mk (Kd.S_elder' zz46 (Kd.S_base ho0) hb); have n1_ := Aside0.mk (Kd.S_lower (Kd.S_new' ho0 (Kd.S_lt zz46)) (below_size zz0)); have n2_ := Aside0.mk (below_step zz0 hb); clear HO293; clear HB; have HO293 := n0_; have HO298 := n1_; have HB := n2_; clear n0_ n1_ n2_; (try clear hb); (try clear hb2); (try clear hk); (try clear hi); (try clear ho0); obtain ⟨Ao18, co18, eo18⟩ := Kd.S_slice HO293.out; subst eo18; have p299 : 0 ≤ (1 : Int) := (by omega); have q299 : 1 < (t289.length : Int) := of_decide_eq_true zz9; obtain ⟨ad299, A299_4, c299_4, e299, hx299_0, hx299_1, hx299_2, hx299_3, hx299_4, hx299_5, hl299_4, hi299_4⟩ := at_T30 (Kd.S_reads' HO293.out).2.2 1 p299 q299; cases e299; obtain ⟨ce299, hce299, hMe299, hcc299⟩ := Kd.S_get HO293.out z30 1 p299 (by first | exact q299 | exact of_decide_eq_true zz9 | (have e_ := (Kd.S_reads' HO293.out).1; omega)); obtain ⟨ve299_4, rfl, ge299_4⟩ := k30_openM hMe299; have hv299_4 := hcc299 4 _ rfl; rw [add_field _ _ 4 (by omega)] at hv299_4; replace hv299_4 := Option.some.inj (hv299_4.symm.trans hx299_4); rw [hv299_4] at ge299_4; have HL299_4 := Aside0.mk (show Kd.R k45 45 _ _ _ _ ((rd_T30 t289 1).f4) from ge299_4); clear hv299_4 ge299_4; clear hcc299 hce299; (try simp only [show (1 : Int).toNat = 1 from rfl, Nat.reduceMul, Nat.reduceEqDiff, Go.Addr.add, ↓reduceIte] at hx299_0); (try simp only [show (1 : Int).toNat = 1 from rfl, Nat.reduceMul, Nat.reduceEqDiff, Go.Addr.add, ↓reduceIte] at hx299_1); (try simp only [show (1 : Int).toNat = 1 from rfl, Nat.reduceMul, Nat.reduceEqDiff, Go.Addr.add, ↓reduceIte] at hx299_2); (try simp only [show (1 : Int).toNat = 1 from rfl, Nat.reduceMul, Nat.reduceEqDiff, Go.Addr.add, ↓reduceIte] at hx299_3); (try simp only [show (1 : Int).toNat = 1 from rfl, Nat.reduceMul, Nat.reduceEqDiff, Go.Addr.add, ↓reduceIte] at hx299_4); (try simp only [show (1 : Int).toNat = 1 from rfl, Nat.reduceMul, Nat.reduceEqDiff, Go.Addr.add, ↓reduceIte] at hx299_5); have qi299 : (1 < t289.length) = True := eq_true (by omega); (try rw [show ((1 : Int)).toNat = 1 from rfl] at hx299_0); (try rw [show 1 * 6 = 6 from rfl] at hx299_0); (try rw [show ((1 : Int)).toNat = 1 from rfl] at hx299_1); (try rw [show 1 * 6 = 6 from rfl] at hx299_1); (try rw [show ((1 : Int)).toNat = 1 from rfl] at hx299_2); (try rw [show 1 * 6 = 6 from rfl] at hx299_2); (try rw [show ((1 : Int)).toNat = 1 from rfl] at hx299_3); (try rw [show 1 * 6 = 6 from rfl] at hx299_3); (try rw [show ((1 : Int)).toNat = 1 from rfl] at hx299_4); (try rw [show 1 * 6 = 6 from rfl] at hx299_4); (try rw [show ((1 : Int)).toNat = 1 from rfl] at hx299_5); (try rw [show 1 * 6 = 6 from rfl] at hx299_5); have HR299_4 := Aside0.mk hi299_4; have HC299_4 := Aside0.mk hl299_4; clear hi299_4 hl299_4; replace p299 := eq_true p299; replace q299 := eq_true q299; have p300 : 0 ≤ (1 : Int) := (by omega); have q300 : 1 < (t289.length : Int) := of_decide_eq_true zz9; obtain ⟨ad300, A300_4, c300_4, e300, hx300_0, hx300_1, hx300_2, hx300_3, hx300_4, hx300_5, hl300_4, hi300_4⟩ := at_T30 (Kd.S_reads' HO293.out).2.2 1 p300 q300; obtain rfl : ad299 = ad300 := (by injection e300); obtain ⟨ce300, hce300, hMe300, hcc300⟩ := Kd.S_get HO293.out z30 1 p300 (by first | exact q300 | exact of_decide_eq_true zz9 | (have e_ := (Kd.S_reads' HO293.out).1; omega)); obtain ⟨ve300_4, rfl, ge300_4⟩ := k30_openM hMe300; have hv300_4 := hcc300 4 _ rfl; rw [add_field _ _ 4 (by omega)] at hv300_4; replace hv300_4 := Option.some.inj (hv300_4.symm.trans hx300_4); rw [hv300_4] at ge300_4; have HL300_4 := Aside0.mk (show Kd.R k45 45 _ _ _ _ ((rd_T30 t289 1).f4) from ge300_4); clear hv300_4 ge300_4; clear hcc300 hce300; (try simp only [show (1 : Int).toNat = 1 from rfl, Nat.reduceMul, Nat.reduceEqDiff, Go.Addr.add, ↓reduceIte] at hx300_0); (try simp only [show (1 : Int).toNat = 1 from rfl, Nat.reduceMul, Nat.reduceEqDiff, Go.Addr.add, ↓reduceIte] at hx300_1); (try simp only [show (1 : Int).toNat = 1 from rfl, Nat.reduceMul, Nat.reduceEqDiff, Go.Addr.add, ↓reduceIte] at hx300_2); (try simp only [show (1 : Int).toNat = 1 from rfl, Nat.reduceMul, Nat.reduceEqDiff, Go.Addr.add, ↓reduceIte] at hx300_3); (try simp only [show (1 : Int).toNat = 1 from rfl, Nat.reduceMul, Nat.reduceEqDiff, Go.Addr.add, ↓reduceIte] at hx300_4); (try simp only [show (1 : Int).toNat = 1 from rfl, Nat.reduceMul, Nat.reduceEqDiff, Go.Addr.add, ↓reduceIte] at hx300_5); have qi300 : (1 < t289.length) = True := eq_true (by omega); (try rw [show ((1 : Int)).toNat = 1 from rfl] at hx300_0); (try rw [show 1 * 6 = 6 from rfl] at hx300_0); (try rw [show ((1 : Int)).toNat = 1 from rfl] at hx300_1); (try rw [show 1 * 6 = 6 from rfl] at hx300_1); (try rw [show ((1 : Int)).toNat = 1 from rfl] at hx300_2); (try rw [show 1 * 6 = 6 from rfl] at hx300_2); (try rw [show ((1 : Int)).toNat = 1 from rfl] at hx300_3); (try rw [show 1 * 6 = 6 from rfl] at hx300_3); (try rw [show ((1 : Int)).toNat = 1 from rfl] at hx300_4); (try rw [show 1 * 6 = 6 from rfl] at hx300_4); (try rw [show ((1 : Int)).toNat = 1 from rfl] at hx300_5); (try rw [show 1 * 6 = 6 from rfl] at hx300_5); have HR300_4 := Aside0.mk hi300_4; have HC300_4 := Aside0.mk hl300_4; clear hi300_4 hl300_4; replace p300 := eq_true p300; replace q300 := eq_true q300; have ea_ := Option.some.inj (hx299_4.symm.trans hx300_4); injection ea_ with ea_ en_ ec_; subst ea_; subst ec_; clear en_))
              go_ret
              exact ⟨zz4, zz0⟩
          · rw [if_neg c7] at H
            have c7b0 : (((rd_T30 t289 1).f3).toList == ([120] : List UInt8)) = false := beq_eq_false_iff_ne.mpr c7
            have c7b1 : (((rd_T30 t289 1).f3).toList != ([120] : List UInt8)) = true := bne_iff_ne.mpr c7
            obtain rfl := Option.some.inj H
            go_enter Tryz.func4, Tryz.ntmps4
            go_wp2_with (first | ((with_reducible refine gate_callee (f := 5) rfl ?_); refine goesL_ (some 8) rfl rfl Tryz.func5 zz29 rfl #[.string (⟨#[60, 97, 62, 120, 60, 47, 97, 62]⟩ : ByteArray)] rfl zz1 ?_; (with_reducible refine (token_Tokens.calls k (⟨#[60, 97, 62, 120, 60, 47, 97, 62]⟩ : ByteArray) t289 t290 t291 _ A1.out (tabs_b HT.out zz0)).mono ?_); rintro e w19 ⟨v292, rfl, ho0, hb⟩; refine ⟨_, rfl, ?_⟩; have n0_ := Aside0.mk (Kd.S_lower ho0 (below_size zz0)); have n1_ := Aside0.mk (below_step zz0 hb); clear HB; have HO293 := n0_; have HB := n1_; clear n0_ n1_; (try clear hb); (try clear hb2); (try clear hk); (try clear hi); (try clear ho0)) | ((with_reducible refine gate_callee (f := 5) rfl ?_); refine goesL_ (some 13) rfl rfl Tryz.func5 zz29 rfl #[.string (⟨#[60, 97, 62, 60]⟩ : ByteArray)] rfl zz1 ?_; (with_reducible refine (token_Tokens.calls k (⟨#[60, 97, 62, 60]⟩ : ByteArray) t294 t295 t296 _ A2.out (tabs_b HT.out zz0)).mono ?_); rintro e w20 ⟨v297, rfl, ho0, hb⟩; refine ⟨_, rfl, ?_⟩; have n0_ := Aside0.mk (Kd.S_elder' zz46 (Kd.S_base ho0) hb); have n1_ := Aside0.mk (Kd.S_lower (Kd.S_new' ho0 (Kd.S_lt zz46)) (below_size zz0)); have n2_ := Aside0.mk (below_step zz0 hb); clear HO293; clear HB; have HO293 := n0_; have HO298 := n1_; have HB := n2_; clear n0_ n1_ n2_; (try clear hb); (try clear hb2); (try clear hk); (try clear hi); (try clear ho0); obtain ⟨Ao21, co21, eo21⟩ := Kd.S_slice HO293.out; subst eo21; have p299 : 0 ≤ (1 : Int) := (by omega); have q299 : 1 < (t289.length : Int) := of_decide_eq_true zz9; obtain ⟨ad299, A299_4, c299_4, e299, hx299_0, hx299_1, hx299_2, hx299_3, hx299_4, hx299_5, hl299_4, hi299_4⟩ := at_T30 (Kd.S_reads' HO293.out).2.2 1 p299 q299; cases e299; obtain ⟨ce299, hce299, hMe299, hcc299⟩ := Kd.S_get HO293.out z30 1 p299 (by first | exact q299 | exact of_decide_eq_true zz9 | (have e_ := (Kd.S_reads' HO293.out).1; omega)); obtain ⟨ve299_4, rfl, ge299_4⟩ := k30_openM hMe299; have hv299_4 := hcc299 4 _ rfl; rw [add_field _ _ 4 (by omega)] at hv299_4; replace hv299_4 := Option.some.inj (hv299_4.symm.trans hx299_4); rw [hv299_4] at ge299_4; have HL299_4 := Aside0.mk (show Kd.R k45 45 _ _ _ _ ((rd_T30 t289 1).f4) from ge299_4); clear hv299_4 ge299_4; clear hcc299 hce299; (try simp only [show (1 : Int).toNat = 1 from rfl, Nat.reduceMul, Nat.reduceEqDiff, Go.Addr.add, ↓reduceIte] at hx299_0); (try simp only [show (1 : Int).toNat = 1 from rfl, Nat.reduceMul, Nat.reduceEqDiff, Go.Addr.add, ↓reduceIte] at hx299_1); (try simp only [show (1 : Int).toNat = 1 from rfl, Nat.reduceMul, Nat.reduceEqDiff, Go.Addr.add, ↓reduceIte] at hx299_2); (try simp only [show (1 : Int).toNat = 1 from rfl, Nat.reduceMul, Nat.reduceEqDiff, Go.Addr.add, ↓reduceIte] at hx299_3); (try simp only [show (1 : Int).toNat = 1 from rfl, Nat.reduceMul, Nat.reduceEqDiff, Go.Addr.add, ↓reduceIte] at hx299_4); (try simp only [show (1 : Int).toNat = 1 from rfl, Nat.reduceMul, Nat.reduceEqDiff, Go.Addr.add, ↓reduceIte] at hx299_5); have qi299 : (1 < t289.length) = True := eq_true (by omega); (try rw [show ((1 : Int)).toNat = 1 from rfl] at hx299_0); (try rw [show 1 * 6 = 6 from rfl] at hx299_0); (try rw [show ((1 : Int)).toNat = 1 from rfl] at hx299_1); (try rw [show 1 * 6 = 6 from rfl] at hx299_1); (try rw [show ((1 : Int)).toNat = 1 from rfl] at hx299_2); (try rw [show 1 * 6 = 6 from rfl] at hx299_2); (try rw [show ((1 : Int)).toNat = 1 from rfl] at hx299_3); (try rw [show 1 * 6 = 6 from rfl] at hx299_3); (try rw [show ((1 : Int)).toNat = 1 from rfl] at hx299_4); (try rw [show 1 * 6 = 6 from rfl] at hx299_4); (try rw [show ((1 : Int)).toNat = 1 from rfl] at hx299_5); (try rw [show 1 * 6 = 6 from rfl] at hx299_5); have HR299_4 := Aside0.mk hi299_4; have HC299_4 := Aside0.mk hl299_4; clear hi299_4 hl299_4; replace p299 := eq_true p299; replace q299 := eq_true q299))
            go_ret
            exact ⟨zz4, zz0⟩
        · rw [if_neg c6] at H
          exact absurd H (by simp)
      · rw [if_neg c5] at H
        have c5b0 : ((t289.length : Int) == 3) = false := beq_eq_false_iff_ne.mpr c5
        have c5b1 : ((t289.length : Int) != 3) = true := bne_iff_ne.mpr c5
        obtain rfl := Option.some.inj H
        go_enter Tryz.func4, Tryz.ntmps4
        go_wp2_with (first | ((with_reducible refine gate_callee (f := 5) rfl ?_); refine goesL_ (some 8) rfl rfl Tryz.func5 zz29 rfl #[.string (⟨#[60, 97, 62, 120, 60, 47, 97, 62]⟩ : ByteArray)] rfl zz1 ?_; (with_reducible refine (token_Tokens.calls k (⟨#[60, 97, 62, 120, 60, 47, 97, 62]⟩ : ByteArray) t289 t290 t291 _ A1.out (tabs_b HT.out zz0)).mono ?_); rintro e w22 ⟨v292, rfl, ho0, hb⟩; refine ⟨_, rfl, ?_⟩; have n0_ := Aside0.mk (Kd.S_lower ho0 (below_size zz0)); have n1_ := Aside0.mk (below_step zz0 hb); clear HB; have HO293 := n0_; have HB := n1_; clear n0_ n1_; (try clear hb); (try clear hb2); (try clear hk); (try clear hi); (try clear ho0)) | ((with_reducible refine gate_callee (f := 5) rfl ?_); refine goesL_ (some 13) rfl rfl Tryz.func5 zz29 rfl #[.string (⟨#[60, 97, 62, 60]⟩ : ByteArray)] rfl zz1 ?_; (with_reducible refine (token_Tokens.calls k (⟨#[60, 97, 62, 60]⟩ : ByteArray) t294 t295 t296 _ A2.out (tabs_b HT.out zz0)).mono ?_); rintro e w23 ⟨v297, rfl, ho0, hb⟩; refine ⟨_, rfl, ?_⟩; have n0_ := Aside0.mk (Kd.S_elder' zz46 (Kd.S_base ho0) hb); have n1_ := Aside0.mk (Kd.S_lower (Kd.S_new' ho0 (Kd.S_lt zz46)) (below_size zz0)); have n2_ := Aside0.mk (below_step zz0 hb); clear HO293; clear HB; have HO293 := n0_; have HO298 := n1_; have HB := n2_; clear n0_ n1_ n2_; (try clear hb); (try clear hb2); (try clear hk); (try clear hi); (try clear ho0); obtain ⟨Ao24, co24, eo24⟩ := Kd.S_slice HO293.out; subst eo24))
        go_ret
        exact ⟨zz4, zz0⟩
    · rw [if_neg c4] at H
      have c4b0 : (t290 == 0) = false := beq_eq_false_iff_ne.mpr c4
      have c4b1 : (t290 != 0) = true := bne_iff_ne.mpr c4
      obtain rfl := Option.some.inj H
      go_enter Tryz.func4, Tryz.ntmps4
      go_wp2_with (first | ((with_reducible refine gate_callee (f := 5) rfl ?_); refine goesL_ (some 8) rfl rfl Tryz.func5 zz29 rfl #[.string (⟨#[60, 97, 62, 120, 60, 47, 97, 62]⟩ : ByteArray)] rfl zz1 ?_; (with_reducible refine (token_Tokens.calls k (⟨#[60, 97, 62, 120, 60, 47, 97, 62]⟩ : ByteArray) t289 t290 t291 _ A1.out (tabs_b HT.out zz0)).mono ?_); rintro e w25 ⟨v292, rfl, ho0, hb⟩; refine ⟨_, rfl, ?_⟩; have n0_ := Aside0.mk (Kd.S_lower ho0 (below_size zz0)); have n1_ := Aside0.mk (below_step zz0 hb); clear HB; have HO293 := n0_; have HB := n1_; clear n0_ n1_; (try clear hb); (try clear hb2); (try clear hk); (try clear hi); (try clear ho0)) | ((with_reducible refine gate_callee (f := 5) rfl ?_); refine goesL_ (some 13) rfl rfl Tryz.func5 zz29 rfl #[.string (⟨#[60, 97, 62, 60]⟩ : ByteArray)] rfl zz1 ?_; (with_reducible refine (token_Tokens.calls k (⟨#[60, 97, 62, 60]⟩ : ByteArray) t294 t295 t296 _ A2.out (tabs_b HT.out zz0)).mono ?_); rintro e w26 ⟨v297, rfl, ho0, hb⟩; refine ⟨_, rfl, ?_⟩; have n0_ := Aside0.mk (Kd.S_elder' zz46 (Kd.S_base ho0) hb); have n1_ := Aside0.mk (Kd.S_lower (Kd.S_new' ho0 (Kd.S_lt zz46)) (below_size zz0)); have n2_ := Aside0.mk (below_step zz0 hb); clear HO293; clear HB; have HO293 := n0_; have HO298 := n1_; have HB := n2_; clear n0_ n1_ n2_; (try clear hb); (try clear hb2); (try clear hk); (try clear hi); (try clear ho0)))
      go_ret
      exact ⟨zz4, zz0⟩
  · rw [if_neg c3] at H
    have c3b0 : (t291 == 0) = false := beq_eq_false_iff_ne.mpr c3
    have c3b1 : (t291 != 0) = true := bne_iff_ne.mpr c3
    obtain rfl := Option.some.inj H
    go_enter Tryz.func4, Tryz.ntmps4
    go_wp2_with (first | ((with_reducible refine gate_callee (f := 5) rfl ?_); refine goesL_ (some 8) rfl rfl Tryz.func5 zz29 rfl #[.string (⟨#[60, 97, 62, 120, 60, 47, 97, 62]⟩ : ByteArray)] rfl zz1 ?_; (with_reducible refine (token_Tokens.calls k (⟨#[60, 97, 62, 120, 60, 47, 97, 62]⟩ : ByteArray) t289 t290 t291 _ A1.out (tabs_b HT.out zz0)).mono ?_); rintro e w27 ⟨v292, rfl, ho0, hb⟩; refine ⟨_, rfl, ?_⟩; have n0_ := Aside0.mk (Kd.S_lower ho0 (below_size zz0)); have n1_ := Aside0.mk (below_step zz0 hb); clear HB; have HO293 := n0_; have HB := n1_; clear n0_ n1_; (try clear hb); (try clear hb2); (try clear hk); (try clear hi); (try clear ho0)) | ((with_reducible refine gate_callee (f := 5) rfl ?_); refine goesL_ (some 13) rfl rfl Tryz.func5 zz29 rfl #[.string (⟨#[60, 97, 62, 60]⟩ : ByteArray)] rfl zz1 ?_; (with_reducible refine (token_Tokens.calls k (⟨#[60, 97, 62, 60]⟩ : ByteArray) t294 t295 t296 _ A2.out (tabs_b HT.out zz0)).mono ?_); rintro e w28 ⟨v297, rfl, ho0, hb⟩; refine ⟨_, rfl, ?_⟩; have n0_ := Aside0.mk (Kd.S_elder' zz46 (Kd.S_base ho0) hb); have n1_ := Aside0.mk (Kd.S_lower (Kd.S_new' ho0 (Kd.S_lt zz46)) (below_size zz0)); have n2_ := Aside0.mk (below_step zz0 hb); clear HO293; clear HB; have HO293 := n0_; have HO298 := n1_; have HB := n2_; clear n0_ n1_ n2_; (try clear hb); (try clear hb2); (try clear hk); (try clear hi); (try clear ho0)))
    go_ret
    exact ⟨zz4, zz0⟩
mutual
def cardexref01_decode.j2 : Nat → ByteArray → Int → Int → Int → Int → Option (Int × Int)
  | 0, _, _, _, _, _ => none
  | k + 1, x0, x1, x6, x7, x8 => if (wrap64 (x1 + x7)) > (x0.size : Int) then (some (0, 0)) else (cardexref01_decode.l0 k x0 x1 x6 x7 x8 1)
def cardexref01_decode.l0 : Nat → ByteArray → Int → Int → Int → Int → Int → Option (Int × Int)
  | 0, _, _, _, _, _, _ => none
  | k + 1, x0, x1, x6, x7, x8, x9 => if x9 < x7 then (if 0 ≤ (wrap64 (x1 + x9)) then (if (wrap64 (x1 + x9)) < (x0.size : Int) then (if (Go.bits .and .u8 (bt x0 (wrap64 (x1 + x9))) 192) = 128 then (cardexref01_decode.l0 k x0 x1 (Go.bits .or .i64 (wrap64 (x6 * 64)) (wrap64 (Go.bits .and .u8 (bt x0 (wrap64 (x1 + x9))) 63))) x7 x8 (wrap64 (x9 + 1))) else (some (0, 0))) else (none)) else (none)) else (if x6 < x8 then (some (0, 0)) else (if x6 > 1114111 then (some (0, 0)) else (if x6 ≥ 55296 then (if x6 ≤ 57343 then (some (0, 0)) else (some (x6, x7))) else (some (x6, x7)))))
def cardexref01_decode.j0 : Nat → ByteArray → Int → Int → Bool → Option (Int × Int)
  | 0, _, _, _, _ => none
  | k + 1, x0, x1, x6, x17 => if x17 = true then (cardexref01_decode.j2 k x0 x1 (Go.bits .and .i64 x6 31) 2 128) else (if x6 ≥ 224 then (cardexref01_decode.j1 k x0 x1 x6 (decide (x6 < 240))) else (cardexref01_decode.j1 k x0 x1 x6 false))
def cardexref01_decode.j1 : Nat → ByteArray → Int → Int → Bool → Option (Int × Int)
  | 0, _, _, _, _ => none
  | k + 1, x0, x1, x6, x26 => if x26 = true then (cardexref01_decode.j2 k x0 x1 (Go.bits .and .i64 x6 15) 3 2048) else (if x6 ≥ 240 then (if x6 < 248 then (cardexref01_decode.j2 k x0 x1 (Go.bits .and .i64 x6 7) 4 65536) else (some (0, 0))) else (some (0, 0)))
end
def cardexref01_decode.f (k : Nat) (a0 : ByteArray) (a1 : Int) : Option (Int × Int) := if 0 ≤ a1 then (if a1 < (a0.size : Int) then (if (wrap64 (bt a0 a1)) < 128 then (cardexref01_decode.j2 k a0 a1 (wrap64 (bt a0 a1)) 1 0) else (if (wrap64 (bt a0 a1)) ≥ 192 then (cardexref01_decode.j0 k a0 a1 (wrap64 (bt a0 a1)) (decide ((wrap64 (bt a0 a1)) < 224))) else (cardexref01_decode.j0 k a0 a1 (wrap64 (bt a0 a1)) false))) else (none)) else (none)
set_option maxHeartbeats 8000000 in
set_option maxRecDepth 100000 in
theorem cardexref01_decode.calls (k : Nat) (a0 : ByteArray) (a1 : Int) (r1 : Int) (r2 : Int) (w : World) (h : cardexref01_decode.f k a0 a1 = some (r1, r2)) :
    Calls Tryz.prog 46 #[.string a0, .int .i64 a1] w fun e w' => e = .returned (.tuple #[.int .i64 r1, .int .i64 r2]) ∧ Drawn0 w w' := by
  have H : (if 0 ≤ a1 then (if a1 < (a0.size : Int) then (if (wrap64 (bt a0 a1)) < 128 then (cardexref01_decode.j2 k a0 a1 (wrap64 (bt a0 a1)) 1 0) else (if (wrap64 (bt a0 a1)) ≥ 192 then (cardexref01_decode.j0 k a0 a1 (wrap64 (bt a0 a1)) (decide ((wrap64 (bt a0 a1)) < 224))) else (cardexref01_decode.j0 k a0 a1 (wrap64 (bt a0 a1)) false))) else (none)) else (none)) = some (r1, r2) := h
  clear h
  by_cases c3 : 0 ≤ a1
  · rw [if_pos c3] at H
    have c3b0 : decide (0 ≤ a1) = true := decide_eq_true c3
    clear c3
    by_cases c4 : a1 < (a0.size : Int)
    · rw [if_pos c4] at H
      have c4b0 : decide (a1 < (a0.size : Int)) = true := decide_eq_true c4
      clear c4
      have HC6 := Aside0.mk H
      clear H
      have p5 : 0 ≤ (a1 : Int) := of_decide_eq_true zz9
      have q5 : a1 < (a0.size : Int) := of_decide_eq_true zz9
      have hx5 := bt_at a0 a1
      replace p5 := eq_true p5
      replace q5 := eq_true q5
      go_enter Tryz.func46, Tryz.ntmps46
      go_upto_block 0 with (fail)
      go_cut [6, 7, 8] (fun v6 v7 v8 wc => ∃ (kq : Nat) (x6_5 : Int) (x7_5 : Int) (x8_5 : Int), v6 = .int .i64 x6_5 ∧ v7 = .int .i64 x7_5 ∧ v8 = .int .i64 x8_5 ∧ Aside0 (cardexref01_decode.j2 kq a0 a1 x6_5 x7_5 x8_5 = some (r1, r2)) ∧ Aside0 (kq ≤ k) ∧ Drawn0 w wc)
      case first =>
        have H := HC6.out
        clear HC6
        by_cases c7 : (wrap64 (bt a0 a1)) < 128
        · rw [if_pos c7] at H
          have c7b0 : decide ((wrap64 (bt a0 a1)) < 128) = true := decide_eq_true c7
          clear c7
          (first | rw [c7b0] | (simp only [i64_w, i32_w]; rw [c7b0]) | skip)
          have H' := Aside0.mk H
          clear H
          go_wp2
          go_meet
          case rel => exact ⟨_, (wrap64 (bt a0 a1)), (1), (0), zz2, zz2, zz2, H', ⟨by first | omega | exact Nat.le_refl _⟩, zz10⟩
        · rw [if_neg c7] at H
          have c7b0 : decide ((wrap64 (bt a0 a1)) < 128) = false := decide_eq_false c7
          clear c7
          (first | rw [c7b0] | (simp only [i64_w, i32_w]; rw [c7b0]) | skip)
          have HC8 := Aside0.mk H
          clear H
          go_upto_region 5 with (fail)
          go_cut [17] (fun v17 wc => ∃ (kq : Nat) (x17_7 : Bool), v17 = .bool x17_7 ∧ Aside0 (cardexref01_decode.j0 kq a0 a1 (wrap64 (bt a0 a1)) x17_7 = some (r1, r2)) ∧ Aside0 (kq ≤ k) ∧ Drawn0 w wc)
          case first =>
            have H := HC8.out
            clear HC8
            by_cases c9 : (wrap64 (bt a0 a1)) ≥ 192
            · rw [if_pos c9] at H
              have c9b0 : decide (192 ≤ (wrap64 (bt a0 a1))) = true := decide_eq_true c9
              clear c9
              (first | rw [c9b0] | (simp only [i64_w, i32_w]; rw [c9b0]) | skip)
              have H' := Aside0.mk H
              clear H
              go_wp2
              go_meet
              case rel => exact ⟨_, (decide ((wrap64 (bt a0 a1)) < 224)), zz2, H', ⟨by first | omega | exact Nat.le_refl _⟩, zz10⟩
            · rw [if_neg c9] at H
              have c9b0 : decide (192 ≤ (wrap64 (bt a0 a1))) = false := decide_eq_false c9
              clear c9
              (first | rw [c9b0] | (simp only [i64_w, i32_w]; rw [c9b0]) | skip)
              have H' := Aside0.mk H
              clear H
              go_wp2
              go_meet
              case rel => exact ⟨_, (false), zz2, H', ⟨by first | omega | exact Nat.le_refl _⟩, zz10⟩
          case rest =>
            clear HC8
            try clear p2
            try clear c3
            try clear c3b0
            try clear c4
            try clear c4b0
            try clear p5
            try clear q5
            try clear hx5
            try clear p6
            try clear c7
            try clear c7b0
            try clear c9
            try clear c9b0
            try clear p5
            try clear q5
            obtain ⟨kq, x17_7, rfl, HA, HJ7, ⟨mc7, rfl⟩⟩ := hcut
            cases kq with
            | zero => exact absurd HA.out (by simp [cardexref01_decode.j0])
            | succ kj7 =>
              have H := HA.out
              clear HA
              simp only [cardexref01_decode.j0] at H
              by_cases c10 : x17_7 = true
              · subst c10
                have H1 : (cardexref01_decode.j2 kj7 a0 a1 (Go.bits .and .i64 (wrap64 (bt a0 a1)) 31) 2 128) = some (r1, r2) := by rw [if_pos rfl] at H; exact H
                clear H
                have H := H1
                clear H1
                have H' := Aside0.mk H
                clear H
                go_wp2
                go_meet
                case rel => exact ⟨_, (Go.bits .and .i64 (wrap64 (bt a0 a1)) 31), (2), (128), zz2, zz2, zz2, H', ⟨by have := HJ7.out; first | omega | exact Nat.le_refl _⟩, zz10⟩
              · replace c10 := Bool.eq_false_iff.mpr c10
                subst c10
                have H1 : (if (wrap64 (bt a0 a1)) ≥ 224 then (cardexref01_decode.j1 kj7 a0 a1 (wrap64 (bt a0 a1)) (decide ((wrap64 (bt a0 a1)) < 240))) else (cardexref01_decode.j1 kj7 a0 a1 (wrap64 (bt a0 a1)) false)) = some (r1, r2) := by rw [if_neg (show ¬ (false = true) by decide)] at H; exact H
                clear H
                have H := H1
                clear H1
                have HC11 := Aside0.mk H
                clear H
                go_upto_region 7 with (fail)
                go_cut [26] (fun v26 wc => ∃ (kq : Nat) (x26_10 : Bool), v26 = .bool x26_10 ∧ Aside0 (cardexref01_decode.j1 kq a0 a1 (wrap64 (bt a0 a1)) x26_10 = some (r1, r2)) ∧ Aside0 (kq ≤ kj7) ∧ Drawn0 w wc)
                case first =>
                  have H := HC11.out
                  clear HC11
                  by_cases c12 : (wrap64 (bt a0 a1)) ≥ 224
                  · rw [if_pos c12] at H
                    have c12b0 : decide (224 ≤ (wrap64 (bt a0 a1))) = true := decide_eq_true c12
                    clear c12
                    (first | rw [c12b0] | (simp only [i64_w, i32_w]; rw [c12b0]) | skip)
                    have H' := Aside0.mk H
                    clear H
                    go_wp2
                    go_meet
                    case rel => exact ⟨_, (decide ((wrap64 (bt a0 a1)) < 240)), zz2, H', ⟨by have := HJ7.out; first | omega | exact Nat.le_refl _⟩, zz10⟩
                  · rw [if_neg c12] at H
                    have c12b0 : decide (224 ≤ (wrap64 (bt a0 a1))) = false := decide_eq_false c12
                    clear c12
                    (first | rw [c12b0] | (simp only [i64_w, i32_w]; rw [c12b0]) | skip)
                    have H' := Aside0.mk H
                    clear H
                    go_wp2
                    go_meet
                    case rel => exact ⟨_, (false), zz2, H', ⟨by have := HJ7.out; first | omega | exact Nat.le_refl _⟩, zz10⟩
                case rest =>
                  clear HC11
                  try clear c1
                  try clear p2
                  try clear c3
                  try clear c3b0
                  try clear c4
                  try clear c4b0
                  try clear p5
                  try clear q5
                  try clear hx5
                  try clear p6
                  try clear c7
                  try clear c7b0
                  try clear c9
                  try clear c9b0
                  try clear c10
                  try clear c12
                  try clear c12b0
                  try clear p2
                  try clear p5
                  try clear p6
                  try clear q5
                  obtain ⟨kq, x26_10, rfl, HA, HJ10, ⟨mc10, rfl⟩⟩ := hcut
                  cases kq with
                  | zero => exact absurd HA.out (by simp [cardexref01_decode.j1])
                  | succ kj10 =>
                    have H := HA.out
                    clear HA
                    simp only [cardexref01_decode.j1] at H
                    by_cases c13 : x26_10 = true
                    · subst c13
                      have H1 : (cardexref01_decode.j2 kj10 a0 a1 (Go.bits .and .i64 (wrap64 (bt a0 a1)) 15) 3 2048) = some (r1, r2) := by rw [if_pos rfl] at H; exact H
                      clear H
                      have H := H1
                      clear H1
                      have H' := Aside0.mk H
                      clear H
                      go_wp2
                      go_meet
                      case rel => exact ⟨_, (Go.bits .and .i64 (wrap64 (bt a0 a1)) 15), (3), (2048), zz2, zz2, zz2, H', ⟨by have := HJ7.out; have := HJ10.out; first | omega | exact Nat.le_refl _⟩, zz10⟩
                    · replace c13 := Bool.eq_false_iff.mpr c13
                      subst c13
                      have H1 : (if (wrap64 (bt a0 a1)) ≥ 240 then (if (wrap64 (bt a0 a1)) < 248 then (cardexref01_decode.j2 kj10 a0 a1 (Go.bits .and .i64 (wrap64 (bt a0 a1)) 7) 4 65536) else (some (0, 0))) else (some (0, 0))) = some (r1, r2) := by rw [if_neg (show ¬ (false = true) by decide)] at H; exact H
                      clear H
                      have H := H1
                      clear H1
                      by_cases c14 : (wrap64 (bt a0 a1)) ≥ 240
                      · rw [if_pos c14] at H
                        have c14b0 : decide (240 ≤ (wrap64 (bt a0 a1))) = true := decide_eq_true c14
                        clear c14
                        by_cases c15 : (wrap64 (bt a0 a1)) < 248
                        · rw [if_pos c15] at H
                          have c15b0 : decide ((wrap64 (bt a0 a1)) < 248) = true := decide_eq_true c15
                          clear c15
                          have H' := Aside0.mk H
                          clear H
                          go_wp2
                          go_meet
                          case rel => exact ⟨_, (Go.bits .and .i64 (wrap64 (bt a0 a1)) 7), (4), (65536), zz2, zz2, zz2, H', ⟨by have := HJ7.out; have := HJ10.out; first | omega | exact Nat.le_refl _⟩, zz10⟩
                        · rw [if_neg c15] at H
                          have c15b0 : decide ((wrap64 (bt a0 a1)) < 248) = false := decide_eq_false c15
                          clear c15
                          simp only [Option.some.injEq, Prod.mk.injEq] at H
                          obtain ⟨rfl, rfl⟩ := H
                          go_wp2
                          go_ret2
                          exact ⟨zz2, zz10⟩
                      · rw [if_neg c14] at H
                        have c14b0 : decide (240 ≤ (wrap64 (bt a0 a1))) = false := decide_eq_false c14
                        clear c14
                        simp only [Option.some.injEq, Prod.mk.injEq] at H
                        obtain ⟨rfl, rfl⟩ := H
                        go_wp2
                        go_ret2
                        exact ⟨zz2, zz10⟩
      case rest =>
        clear HC6
        try clear c1
        try clear p2
        try clear c3
        try clear c3b0
        try clear c4
        try clear c4b0
        try clear p5
        try clear q5
        try clear hx5
        try clear p6
        try clear c7
        try clear c7b0
        try clear c9
        try clear c9b0
        try clear c10
        try clear c12
        try clear c12b0
        try clear c13
        try clear c14
        try clear c14b0
        try clear c15
        try clear c15b0
        try clear p2
        try clear p5
        try clear p6
        try clear q5
        obtain ⟨kq, x6_5, x7_5, x8_5, rfl, rfl, rfl, HA, HJ5, ⟨mc5, rfl⟩⟩ := hcut
        cases kq with
        | zero => exact absurd HA.out (by simp [cardexref01_decode.j2])
        | succ kj5 =>
          have H := HA.out
          clear HA
          simp only [cardexref01_decode.j2] at H
          by_cases c16 : (wrap64 (a1 + x7_5)) > (a0.size : Int)
          · rw [if_pos c16] at H
            have c16b0 : decide ((a0.size : Int) < (wrap64 (a1 + x7_5))) = true := decide_eq_true c16
            clear c16
            simp only [Option.some.injEq, Prod.mk.injEq] at H
            obtain ⟨rfl, rfl⟩ := H
            go_wp2
            go_ret2
            exact ⟨zz2, zz10⟩
          · rw [if_neg c16] at H
            have c16b0 : decide ((a0.size : Int) < (wrap64 (a1 + x7_5))) = false := decide_eq_false c16
            clear c16
            have H' := Aside0.mk H
            clear H
            go_wp2
            go_loopg [6, 9] kj5 (fun kq v6 v9 w' => ∃ (x6_2 : Int) (x9_2 : Int), v6 = .int .i64 x6_2 ∧ v9 = .int .i64 x9_2 ∧ Aside0 (cardexref01_decode.l0 kq a0 a1 x6_2 x7_5 x8_5 x9_2 = some (r1, r2)) ∧ Aside0 (kq ≤ kj5) ∧ Drawn0 w w')
            case atStart => exact ⟨(x6_5), (1), zz2, zz2, H', ⟨Nat.le_refl _⟩, zz10⟩
            case round =>
              clear H'
              try clear c1
              try clear p2
              try clear c3
              try clear c3b0
              try clear c4
              try clear c4b0
              try clear c5
              try clear p5
              try clear q5
              try clear hx5
              try clear p6
              try clear c7
              try clear c7b0
              try clear c9
              try clear c9b0
              try clear c10
              try clear c12
              try clear c12b0
              try clear c13
              try clear c14
              try clear c14b0
              try clear c15
              try clear c15b0
              try clear c16
              try clear c16b0
              try clear p2
              try clear p5
              try clear p6
              try clear q5
              obtain ⟨x6_2, x9_2, rfl, rfl, HA, HK2, ⟨m2, rfl⟩⟩ := hrel
              cases gk with
              | zero => exact absurd HA.out (by simp [cardexref01_decode.l0])
              | succ k2 =>
                have H := HA.out
                clear HA
                simp only [cardexref01_decode.l0] at H
                by_cases c17 : x9_2 < x7_5
                · rw [if_pos c17] at H
                  have c17b0 : decide (x9_2 < x7_5) = true := decide_eq_true c17
                  clear c17
                  obtain ⟨ji18, hji18⟩ : ∃ j_ : Int, (wrap64 (a1 + x9_2)) = j_ := ⟨_, rfl⟩
                  replace H : (if 0 ≤ (ji18) then (if (ji18) < (a0.size : Int) then (if (Go.bits .and .u8 (bt a0 (ji18)) 192) = 128 then (cardexref01_decode.l0 k2 a0 a1 (Go.bits .or .i64 (wrap64 (x6_2 * 64)) (wrap64 (Go.bits .and .u8 (bt a0 (ji18)) 63))) x7_5 x8_5 (wrap64 (x9_2 + 1))) else (some (0, 0))) else (none)) else (none)) = some (r1, r2) := by first | (rw [hji18] at H; exact H) | (simp only [hji18] at H ⊢; exact H)
                  have hji18w : (IntKind.i64.wrap (a1 + x9_2)) = ji18 := (i64_w _).trans hji18
                  by_cases c19 : 0 ≤ (ji18)
                  · rw [if_pos c19] at H
                    have c19b0 : decide (0 ≤ (ji18)) = true := decide_eq_true c19
                    clear c19
                    by_cases c20 : (ji18) < (a0.size : Int)
                    · rw [if_pos c20] at H
                      have c20b0 : decide ((ji18) < (a0.size : Int)) = true := decide_eq_true c20
                      clear c20
                      by_cases c22 : (Go.bits .and .u8 (bt a0 (ji18)) 192) = 128
                      · rw [if_pos c22] at H
                        have c22b0 : ((Go.bits .and .u8 (bt a0 (ji18)) 192) == 128) = true := beq_iff_eq.mpr c22
                        have c22b1 : ((Go.bits .and .u8 (bt a0 (ji18)) 192) != 128) = false := bne_eq_false_iff_eq.mpr c22
                        clear c22
                        have H' := Aside0.mk H
                        clear H
                        have p21 : 0 ≤ ((ji18) : Int) := of_decide_eq_true zz9
                        have q21 : (ji18) < (a0.size : Int) := of_decide_eq_true zz9
                        have hx21 := bt_at a0 (ji18)
                        replace p21 := eq_true p21
                        replace q21 := eq_true q21
                        have p23 : 0 ≤ ((ji18) : Int) := of_decide_eq_true zz9
                        have q23 : (ji18) < (a0.size : Int) := of_decide_eq_true zz9
                        have hx23 := bt_at a0 (ji18)
                        replace p23 := eq_true p23
                        replace q23 := eq_true q23
                        go_wp2
                        go_roundg k2
                        case measure => have := HJ5.out; have := HK2.out; omega
                        case rel => exact ⟨(Go.bits .or .i64 (wrap64 (x6_2 * 64)) (wrap64 (Go.bits .and .u8 (bt a0 (ji18)) 63))), (wrap64 (x9_2 + 1)), (by first | rfl | (simp; done) | (simp only [← hji18] <;> (first | rfl | simp)) | exact congrArg Value.bool (nemp _) | exact congrArg Value.bool (emp _) | (simp [*]; done)), zz2, H', ⟨by have := HJ5.out; have := HK2.out; omega⟩, zz10⟩
                      · rw [if_neg c22] at H
                        have c22b0 : ((Go.bits .and .u8 (bt a0 (ji18)) 192) == 128) = false := beq_eq_false_iff_ne.mpr c22
                        have c22b1 : ((Go.bits .and .u8 (bt a0 (ji18)) 192) != 128) = true := bne_iff_ne.mpr c22
                        simp only [Option.some.injEq, Prod.mk.injEq] at H
                        obtain ⟨rfl, rfl⟩ := H
                        have p21 : 0 ≤ ((ji18) : Int) := of_decide_eq_true zz9
                        have q21 : (ji18) < (a0.size : Int) := of_decide_eq_true zz9
                        have hx21 := bt_at a0 (ji18)
                        replace p21 := eq_true p21
                        replace q21 := eq_true q21
                        go_wp2
                        go_ret2
                        exact ⟨by first | rfl | (simp; done) | (simp only [← hji18] <;> (first | rfl | simp)) | exact congrArg Value.bool (nemp _) | exact congrArg Value.bool (emp _) | (simp [*]; done), zz10⟩
                    · rw [if_neg c20] at H
                      exact absurd H (by simp)
                  · rw [if_neg c19] at H
                    exact absurd H (by simp)
                · rw [if_neg c17] at H
                  have c17b0 : decide (x9_2 < x7_5) = false := decide_eq_false c17
                  clear c17
                  by_cases c24 : x6_2 < x8_5
                  · rw [if_pos c24] at H
                    have c24b0 : decide (x6_2 < x8_5) = true := decide_eq_true c24
                    clear c24
                    simp only [Option.some.injEq, Prod.mk.injEq] at H
                    obtain ⟨rfl, rfl⟩ := H
                    go_wp2
                    go_ret2
                    exact ⟨zz2, zz10⟩
                  · rw [if_neg c24] at H
                    have c24b0 : decide (x6_2 < x8_5) = false := decide_eq_false c24
                    clear c24
                    by_cases c25 : x6_2 > 1114111
                    · rw [if_pos c25] at H
                      have c25b0 : decide (1114111 < x6_2) = true := decide_eq_true c25
                      clear c25
                      simp only [Option.some.injEq, Prod.mk.injEq] at H
                      obtain ⟨rfl, rfl⟩ := H
                      go_wp2
                      go_ret2
                      exact ⟨zz2, zz10⟩
                    · rw [if_neg c25] at H
                      have c25b0 : decide (1114111 < x6_2) = false := decide_eq_false c25
                      clear c25
                      by_cases c26 : x6_2 ≥ 55296
                      · rw [if_pos c26] at H
                        have c26b0 : decide (55296 ≤ x6_2) = true := decide_eq_true c26
                        clear c26
                        by_cases c27 : x6_2 ≤ 57343
                        · rw [if_pos c27] at H
                          have c27b0 : decide (x6_2 ≤ 57343) = true := decide_eq_true c27
                          clear c27
                          simp only [Option.some.injEq, Prod.mk.injEq] at H
                          obtain ⟨rfl, rfl⟩ := H
                          go_wp2
                          go_ret2
                          exact ⟨zz2, zz10⟩
                        · rw [if_neg c27] at H
                          have c27b0 : decide (x6_2 ≤ 57343) = false := decide_eq_false c27
                          clear c27
                          simp only [Option.some.injEq, Prod.mk.injEq] at H
                          obtain ⟨rfl, rfl⟩ := H
                          go_wp2
                          go_ret2
                          exact ⟨zz2, zz10⟩
                      · rw [if_neg c26] at H
                        have c26b0 : decide (55296 ≤ x6_2) = false := decide_eq_false c26
                        clear c26
                        simp only [Option.some.injEq, Prod.mk.injEq] at H
                        obtain ⟨rfl, rfl⟩ := H
                        go_wp2
                        go_ret2
                        exact ⟨zz2, zz10⟩
    · rw [if_neg c4] at H
      exact absurd H (by simp)
  · rw [if_neg c3] at H
    exact absurd H (by simp)
def cardexref01_Char.f (a0 : Int) : Option (Bool) := if a0 = 9 then (some true) else (if a0 = 10 then (some true) else (if a0 = 13 then (some true) else (if a0 ≥ 32 then (if a0 < 55296 then (some true) else (if a0 > 57343 then (if a0 < 65534 then (some true) else (if a0 > 65535 then (some (decide (a0 ≤ 1114111))) else (some false))) else (if a0 > 65535 then (some (decide (a0 ≤ 1114111))) else (some false)))) else (if a0 > 57343 then (if a0 < 65534 then (some true) else (if a0 > 65535 then (some (decide (a0 ≤ 1114111))) else (some false))) else (if a0 > 65535 then (some (decide (a0 ≤ 1114111))) else (some false))))))
set_option maxHeartbeats 8000000 in
set_option maxRecDepth 100000 in
theorem cardexref01_Char.calls (a0 : Int) (r : Bool) (w : World) (h : cardexref01_Char.f a0 = some r) :
    Calls Tryz.prog 47 #[.int .i64 a0] w fun e w' => e = .returned (.bool r) ∧ Drawn0 w w' := by
  have H : (if a0 = 9 then (some true) else (if a0 = 10 then (some true) else (if a0 = 13 then (some true) else (if a0 ≥ 32 then (if a0 < 55296 then (some true) else (if a0 > 57343 then (if a0 < 65534 then (some true) else (if a0 > 65535 then (some (decide (a0 ≤ 1114111))) else (some false))) else (if a0 > 65535 then (some (decide (a0 ≤ 1114111))) else (some false)))) else (if a0 > 57343 then (if a0 < 65534 then (some true) else (if a0 > 65535 then (some (decide (a0 ≤ 1114111))) else (some false))) else (if a0 > 65535 then (some (decide (a0 ≤ 1114111))) else (some false))))))) = some r := h
  clear h
  by_cases c2 : a0 = 9
  · rw [if_pos c2] at H
    have c2b0 : (a0 == 9) = true := beq_iff_eq.mpr c2
    have c2b1 : (a0 != 9) = false := bne_eq_false_iff_eq.mpr c2
    clear c2
    obtain rfl := Option.some.inj H
    go_enter Tryz.func47, Tryz.ntmps47
    go_wp2
    go_ret
    exact ⟨zz2, zz10⟩
  · rw [if_neg c2] at H
    have c2b0 : (a0 == 9) = false := beq_eq_false_iff_ne.mpr c2
    have c2b1 : (a0 != 9) = true := bne_iff_ne.mpr c2
    by_cases c3 : a0 = 10
    · rw [if_pos c3] at H
      have c3b0 : (a0 == 10) = true := beq_iff_eq.mpr c3
      have c3b1 : (a0 != 10) = false := bne_eq_false_iff_eq.mpr c3
      clear c3
      obtain rfl := Option.some.inj H
      go_enter Tryz.func47, Tryz.ntmps47
      go_wp2
      go_ret
      exact ⟨zz2, zz10⟩
    · rw [if_neg c3] at H
      have c3b0 : (a0 == 10) = false := beq_eq_false_iff_ne.mpr c3
      have c3b1 : (a0 != 10) = true := bne_iff_ne.mpr c3
      by_cases c4 : a0 = 13
      · rw [if_pos c4] at H
        have c4b0 : (a0 == 13) = true := beq_iff_eq.mpr c4
        have c4b1 : (a0 != 13) = false := bne_eq_false_iff_eq.mpr c4
        clear c4
        obtain rfl := Option.some.inj H
        go_enter Tryz.func47, Tryz.ntmps47
        go_wp2
        go_ret
        exact ⟨zz2, zz10⟩
      · rw [if_neg c4] at H
        have c4b0 : (a0 == 13) = false := beq_eq_false_iff_ne.mpr c4
        have c4b1 : (a0 != 13) = true := bne_iff_ne.mpr c4
        by_cases c5 : a0 ≥ 32
        · rw [if_pos c5] at H
          have c5b0 : decide (32 ≤ a0) = true := decide_eq_true c5
          clear c5
          by_cases c6 : a0 < 55296
          · rw [if_pos c6] at H
            have c6b0 : decide (a0 < 55296) = true := decide_eq_true c6
            clear c6
            obtain rfl := Option.some.inj H
            go_enter Tryz.func47, Tryz.ntmps47
            go_wp2
            go_ret
            exact ⟨zz2, zz10⟩
          · rw [if_neg c6] at H
            have c6b0 : decide (a0 < 55296) = false := decide_eq_false c6
            clear c6
            by_cases c7 : a0 > 57343
            · rw [if_pos c7] at H
              have c7b0 : decide (57343 < a0) = true := decide_eq_true c7
              clear c7
              by_cases c8 : a0 < 65534
              · rw [if_pos c8] at H
                have c8b0 : decide (a0 < 65534) = true := decide_eq_true c8
                clear c8
                obtain rfl := Option.some.inj H
                go_enter Tryz.func47, Tryz.ntmps47
                go_wp2
                go_ret
                exact ⟨zz2, zz10⟩
              · rw [if_neg c8] at H
                have c8b0 : decide (a0 < 65534) = false := decide_eq_false c8
                clear c8
                by_cases c9 : a0 > 65535
                · rw [if_pos c9] at H
                  have c9b0 : decide (65535 < a0) = true := decide_eq_true c9
                  clear c9
                  obtain rfl := Option.some.inj H
                  go_enter Tryz.func47, Tryz.ntmps47
                  go_wp2
                  go_ret
                  exact ⟨zz2, zz10⟩
                · rw [if_neg c9] at H
                  have c9b0 : decide (65535 < a0) = false := decide_eq_false c9
                  clear c9
                  obtain rfl := Option.some.inj H
                  go_enter Tryz.func47, Tryz.ntmps47
                  go_wp2
                  go_ret
                  exact ⟨zz2, zz10⟩
            · rw [if_neg c7] at H
              have c7b0 : decide (57343 < a0) = false := decide_eq_false c7
              clear c7
              by_cases c10 : a0 > 65535
              · rw [if_pos c10] at H
                have c10b0 : decide (65535 < a0) = true := decide_eq_true c10
                clear c10
                obtain rfl := Option.some.inj H
                go_enter Tryz.func47, Tryz.ntmps47
                go_wp2
                go_ret
                exact ⟨zz2, zz10⟩
              · rw [if_neg c10] at H
                have c10b0 : decide (65535 < a0) = false := decide_eq_false c10
                clear c10
                obtain rfl := Option.some.inj H
                go_enter Tryz.func47, Tryz.ntmps47
                go_wp2
                go_ret
                exact ⟨zz2, zz10⟩
        · rw [if_neg c5] at H
          have c5b0 : decide (32 ≤ a0) = false := decide_eq_false c5
          clear c5
          by_cases c11 : a0 > 57343
          · rw [if_pos c11] at H
            have c11b0 : decide (57343 < a0) = true := decide_eq_true c11
            clear c11
            by_cases c12 : a0 < 65534
            · rw [if_pos c12] at H
              have c12b0 : decide (a0 < 65534) = true := decide_eq_true c12
              clear c12
              obtain rfl := Option.some.inj H
              go_enter Tryz.func47, Tryz.ntmps47
              go_wp2
              go_ret
              exact ⟨zz2, zz10⟩
            · rw [if_neg c12] at H
              have c12b0 : decide (a0 < 65534) = false := decide_eq_false c12
              clear c12
              by_cases c13 : a0 > 65535
              · rw [if_pos c13] at H
                have c13b0 : decide (65535 < a0) = true := decide_eq_true c13
                clear c13
                obtain rfl := Option.some.inj H
                go_enter Tryz.func47, Tryz.ntmps47
                go_wp2
                go_ret
                exact ⟨zz2, zz10⟩
              · rw [if_neg c13] at H
                have c13b0 : decide (65535 < a0) = false := decide_eq_false c13
                clear c13
                obtain rfl := Option.some.inj H
                go_enter Tryz.func47, Tryz.ntmps47
                go_wp2
                go_ret
                exact ⟨zz2, zz10⟩
          · rw [if_neg c11] at H
            have c11b0 : decide (57343 < a0) = false := decide_eq_false c11
            clear c11
            by_cases c14 : a0 > 65535
            · rw [if_pos c14] at H
              have c14b0 : decide (65535 < a0) = true := decide_eq_true c14
              clear c14
              obtain rfl := Option.some.inj H
              go_enter Tryz.func47, Tryz.ntmps47
              go_wp2
              go_ret
              exact ⟨zz2, zz10⟩
            · rw [if_neg c14] at H
              have c14b0 : decide (65535 < a0) = false := decide_eq_false c14
              clear c14
              obtain rfl := Option.some.inj H
              go_enter Tryz.func47, Tryz.ntmps47
              go_wp2
              go_ret
              exact ⟨zz2, zz10⟩
def cardexref01_Next.f (k : Nat) (a0 : ByteArray) (a1 : Int) : Option (Int × Int) := (cardexref01_decode.f k a0 a1).bind fun bt301 => (if bt301.2 = 0 then (some (0, 0)) else ((cardexref01_Char.f bt301.1).bind fun t303 => (if t303 = true then (some (bt301.1, bt301.2)) else (some (0, 0)))))
set_option maxHeartbeats 8000000 in
set_option maxRecDepth 100000 in
theorem cardexref01_Next.calls (k : Nat) (a0 : ByteArray) (a1 : Int) (r1 : Int) (r2 : Int) (w : World) (h : cardexref01_Next.f k a0 a1 = some (r1, r2)) :
    Calls Tryz.prog 24 #[.string a0, .int .i64 a1] w fun e w' => e = .returned (.tuple #[.int .i64 r1, .int .i64 r2]) ∧ Drawn0 w w' := by
  have H : ((cardexref01_decode.f k a0 a1).bind fun bt301 => (if bt301.2 = 0 then (some (0, 0)) else ((cardexref01_Char.f bt301.1).bind fun t303 => (if t303 = true then (some (bt301.1, bt301.2)) else (some (0, 0)))))) = some (r1, r2) := h
  clear h
  replace H := Option.bind_eq_some_iff.mp H
  obtain ⟨⟨t301, t302⟩, A30, H⟩ := H
  replace H : (if t302 = 0 then (some (0, 0)) else ((cardexref01_Char.f t301).bind fun t303 => (if t303 = true then (some (t301, t302)) else (some (0, 0))))) = some (r1, r2) := H
  have A3 := Aside0.mk A30
  clear A30
  by_cases c4 : t302 = 0
  · rw [if_pos c4] at H
    have c4b0 : (t302 == 0) = true := beq_iff_eq.mpr c4
    have c4b1 : (t302 != 0) = false := bne_eq_false_iff_eq.mpr c4
    clear c4
    simp only [Option.some.injEq, Prod.mk.injEq] at H
    obtain ⟨rfl, rfl⟩ := H
    go_enter Tryz.func24, Tryz.ntmps24
    go_wp2_with (first | ((with_reducible refine gate_callee (f := 46) rfl ?_); refine goesL_ (some 11) rfl rfl Tryz.func46 zz29 rfl #[.string a0, .int .i64 a1] rfl zz1 ?_; (with_reducible refine (cardexref01_decode.calls k a0 a1 t301 t302 _ A3.out).mono ?_); rintro e w' ⟨rfl, ⟨nd, rfl⟩⟩; refine ⟨_, rfl, ?_⟩))
    go_ret2
    exact ⟨zz2, zz10⟩
  · rw [if_neg c4] at H
    have c4b0 : (t302 == 0) = false := beq_eq_false_iff_ne.mpr c4
    have c4b1 : (t302 != 0) = true := bne_iff_ne.mpr c4
    replace H := Option.bind_eq_some_iff.mp H
    obtain ⟨t303, A50, H⟩ := H
    replace H : (if t303 = true then (some (t301, t302)) else (some (0, 0))) = some (r1, r2) := H
    have A5 := Aside0.mk A50
    clear A50
    by_cases c6 : t303 = true
    · subst c6
      have H1 : (some (t301, t302)) = some (r1, r2) := by rw [if_pos rfl] at H; exact H
      clear H
      have H := H1
      clear H1
      simp only [Option.some.injEq, Prod.mk.injEq] at H
      obtain ⟨rfl, rfl⟩ := H
      go_enter Tryz.func24, Tryz.ntmps24
      go_wp2_with (first | ((with_reducible refine gate_callee (f := 46) rfl ?_); refine goesL_ (some 11) rfl rfl Tryz.func46 zz29 rfl #[.string a0, .int .i64 a1] rfl zz1 ?_; (with_reducible refine (cardexref01_decode.calls k a0 a1 t301 t302 _ A3.out).mono ?_); rintro e w' ⟨rfl, ⟨nd, rfl⟩⟩; refine ⟨_, rfl, ?_⟩) | (go_at_call 47; (with_reducible refine (cardexref01_Char.calls t301 true _ A5.out).mono ?_); rintro e w' ⟨rfl, ⟨nd, rfl⟩⟩))
      go_ret2
      exact ⟨zz2, zz10⟩
    · replace c6 := Bool.eq_false_iff.mpr c6
      subst c6
      have H1 : (some (0, 0)) = some (r1, r2) := by rw [if_neg (show ¬ (false = true) by decide)] at H; exact H
      clear H
      have H := H1
      clear H1
      simp only [Option.some.injEq, Prod.mk.injEq] at H
      obtain ⟨rfl, rfl⟩ := H
      go_enter Tryz.func24, Tryz.ntmps24
      go_wp2_with (first | ((with_reducible refine gate_callee (f := 46) rfl ?_); refine goesL_ (some 11) rfl rfl Tryz.func46 zz29 rfl #[.string a0, .int .i64 a1] rfl zz1 ?_; (with_reducible refine (cardexref01_decode.calls k a0 a1 t301 t302 _ A3.out).mono ?_); rintro e w' ⟨rfl, ⟨nd, rfl⟩⟩; refine ⟨_, rfl, ?_⟩) | (go_at_call 47; (with_reducible refine (cardexref01_Char.calls t301 false _ A5.out).mono ?_); rintro e w' ⟨rfl, ⟨nd, rfl⟩⟩))
      go_ret2
      exact ⟨zz2, zz10⟩
end Go.Proofs.YtjijbncheikagaaGreatDoor.Q
