-- Written by hookprint.py (wip/) of this session: the kit's print with hand-proved functions beside it. Not trusted: Lean checks it.
import Derived.Test.YtjijbncheikagaaGreatDoorQ0
import Derived.Test.YtjijbncheikagaaGreatDoorQ6
import Derived.Test.YtjijbncheikagaaGreatDoorQ7
import Derived.Test.YtjijbncheikagaaGreatDoorQ15
namespace Go.Proofs.YtjijbncheikagaaGreatDoor.Q
open List (setIfInBounds_toArray set_cons_zero set_cons_succ)
open Go.RowKit Go.Lib Go.Proofs.YtjijbncheikagaaGreatDoorX Go.Proofs.YtjijbncheikagaaGreatDoorW.PrintWords Go.Proofs.YtjijbncheikagaaGreatDoorW.PrintLast Go.Proofs.YtjijbncheikagaaGreatDoorW.PrintMore
set_option linter.unusedVariables false
set_option linter.unusedSimpArgs false
def cardexhelp_Same_api_Token_cardexhelp_Token.l0 : Nat → List (S30) → List (S30) → Int → Option (Bool)
  | 0, _, _, _ => none
  | k + 1, x0, x1, x7 => if x7 < (x0.length : Int) then (if 0 ≤ x7 then (if x7 < (x1.length : Int) then ((cardexhelp_Token.f k ((rd_T30 x0 x7).f0) ((rd_T30 x0 x7).f1) ((rd_T30 x0 x7).f2) ((rd_T30 x0 x7).f3) ((rd_T30 x0 x7).f4) ((rd_T30 x0 x7).f5) ((rd_T30 x1 x7).f0) ((rd_T30 x1 x7).f1) ((rd_T30 x1 x7).f2) ((rd_T30 x1 x7).f3) ((rd_T30 x1 x7).f4) ((rd_T30 x1 x7).f5)).bind fun t445 => (if t445 = true then (cardexhelp_Same_api_Token_cardexhelp_Token.l0 k x0 x1 (wrap64 (x7 + 1))) else (some false))) else (none)) else (none)) else (some true)
def cardexhelp_Same_api_Token_cardexhelp_Token.f (k : Nat) (l0 : List (S30)) (l1 : List (S30))  : Option (Bool) := if (l0.length : Int) = (l1.length : Int) then (cardexhelp_Same_api_Token_cardexhelp_Token.l0 k l0 l1 0) else (some false)
def cardexhelp_Same_api_Token_cardexhelp_Token.T6 : Bool × List (List Nat × List Nat) := (true, [([], []), ([], []), ([], []), ([1, 2], [1, 2]), ([3], [3]), ([], []), ([], []), ([5, 6], [5, 6]), ([7], [7]), ([0, 4, 8], [0, 4, 8]), ([9], [9])])
def cardexhelp_Same_api_Token_cardexhelp_Token.B6 : List Nat := [0, 0, 0, 6, 14, 0, 0, 96, 224, 511, 1023]
theorem cardexhelp_Same_api_Token_cardexhelp_Token.tab6 : rtab .any (opsOf Tryz.f7 6) = cardexhelp_Same_api_Token_cardexhelp_Token.T6 := by kernel_rfl
theorem cardexhelp_Same_api_Token_cardexhelp_Token.bits6 : waitsOk cardexhelp_Same_api_Token_cardexhelp_Token.T6.2 cardexhelp_Same_api_Token_cardexhelp_Token.B6 = true := by kernel_rfl
set_option maxHeartbeats 8000000 in
set_option maxRecDepth 100000 in
theorem cardexhelp_Same_api_Token_cardexhelp_Token.calls (k : Nat) (A0 : Option Addr) (c0 : Nat) (l0 : List (S30)) (A1 : Option Addr) (c1 : Nat) (l1 : List (S30))  (r : Bool) (w : World) (hr0 : Kd.C k30 w A0 l0.length l0) (hc0 : l0.length ≤ c0) (hr1 : Kd.C k30 w A1 l1.length l1) (hc1 : l1.length ≤ c1) (h : cardexhelp_Same_api_Token_cardexhelp_Token.f k l0 l1 = some r) :
    Calls Tryz.prog 7 #[.slice A0 l0.length c0, .slice A1 l1.length c1, .func (.func 8) #[] #[]] w fun e w' => e = .returned (.bool r) ∧ Below w.heap.size w w' := by
  have hu30 := Tryz.underlying30
  have HR0 := Aside0.mk hr0
  have HC0 := Aside0.mk hc0
  clear hr0 hc0
  have HR1 := Aside0.mk hr1
  have HC1 := Aside0.mk hc1
  clear hr1 hc1
  have HB := Aside0.mk (Below.refl w.heap.size w)
  have H : (if (l0.length : Int) = (l1.length : Int) then (cardexhelp_Same_api_Token_cardexhelp_Token.l0 k l0 l1 0) else (some false)) = some r := h
  clear h
  by_cases c4 : (l0.length : Int) = (l1.length : Int)
  · rw [if_pos c4] at H
    have c4b0 : ((l0.length : Int) == (l1.length : Int)) = true := beq_iff_eq.mpr c4
    have c4b1 : ((l0.length : Int) != (l1.length : Int)) = false := bne_eq_false_iff_eq.mpr c4
    have c4b2 : (l0.length == l1.length) = true := by first | simpa using c4 | (simp at c4 ⊢; omega)
    clear c4
    have H' := Aside0.mk H
    clear H
    go_enter Tryz.func7, Tryz.ntmps7
    go_wp2
    go_loopg [7] k (fun kq v7 w' => ∃ (x7_1 : Int), v7 = .int .i64 x7_1 ∧ Aside0 (cardexhelp_Same_api_Token_cardexhelp_Token.l0 kq l0 l1 x7_1 = some r) ∧ Aside0 (kq ≤ k) ∧ Aside0 (Below w.heap.size w w'))
    case atStart => exact ⟨(0), zz2, H', ⟨Nat.le_refl _⟩, ⟨zz0⟩⟩
    case round =>
      clear H'
      try clear c1
      try clear p2
      try clear c4
      try clear c4b0
      try clear c4b1
      try clear c4b2
      obtain ⟨x7_1, rfl, HA, HK1, HB⟩ := hrel
      cases gk with
      | zero => exact absurd HA.out (by simp [cardexhelp_Same_api_Token_cardexhelp_Token.l0])
      | succ k1 =>
        have H := HA.out
        clear HA
        simp only [cardexhelp_Same_api_Token_cardexhelp_Token.l0] at H
        by_cases c5 : x7_1 < (l0.length : Int)
        · rw [if_pos c5] at H
          have c5b0 : decide (x7_1 < (l0.length : Int)) = true := decide_eq_true c5
          clear c5
          by_cases c6 : 0 ≤ x7_1
          · rw [if_pos c6] at H
            have c6b0 : decide (0 ≤ x7_1) = true := decide_eq_true c6
            clear c6
            by_cases c7 : x7_1 < (l1.length : Int)
            · rw [if_pos c7] at H
              have c7b0 : decide (x7_1 < (l1.length : Int)) = true := decide_eq_true c7
              clear c7
              replace H := Option.bind_eq_some_iff.mp H
              obtain ⟨t445, A80, H⟩ := H
              replace H : (if t445 = true then (cardexhelp_Same_api_Token_cardexhelp_Token.l0 k1 l0 l1 (wrap64 (x7_1 + 1))) else (some false)) = some r := H
              have A8 := Aside0.mk A80
              clear A80
              by_cases c9 : t445 = true
              · subst c9
                have H1 : (cardexhelp_Same_api_Token_cardexhelp_Token.l0 k1 l0 l1 (wrap64 (x7_1 + 1))) = some r := by rw [if_pos rfl] at H; exact H
                clear H
                have H := H1
                clear H1
                have H' := Aside0.mk H
                clear H
                try go_wp2
                have n0_ := Aside0.mk (below_drew1 HB.out)
                clear HB
                have HB := n0_
                clear n0_
                have p443 : 0 ≤ (x7_1 : Int) := of_decide_eq_true zz9
                have q443 : x7_1 < (l0.length : Int) := of_decide_eq_true zz9
                obtain ⟨ad443, A443_4, c443_4, e443, hx443_0, hx443_1, hx443_2, hx443_3, hx443_4, hx443_5, hl443_4, hi443_4⟩ := at_T30 HR0.out x7_1 p443 q443
                have hw443_5 := hx443_5
                have hw443_4 := hx443_4
                have hw443_3 := hx443_3
                have hw443_2 := hx443_2
                have hw443_1 := hx443_1
                have hw443_0 := hx443_0
                cases e443
                replace hx443_0 := (HB.out.cell (World.block_lt_of_cell? w _ hx443_0)).trans hx443_0
                replace hx443_1 := (HB.out.cell (World.block_lt_of_cell? w _ hx443_1)).trans hx443_1
                replace hx443_2 := (HB.out.cell (World.block_lt_of_cell? w _ hx443_2)).trans hx443_2
                replace hx443_3 := (HB.out.cell (World.block_lt_of_cell? w _ hx443_3)).trans hx443_3
                replace hx443_4 := (HB.out.cell (World.block_lt_of_cell? w _ hx443_4)).trans hx443_4
                replace hx443_5 := (HB.out.cell (World.block_lt_of_cell? w _ hx443_5)).trans hx443_5
                have HR443_4 := Aside0.mk hi443_4
                have HC443_4 := Aside0.mk hl443_4
                clear hi443_4 hl443_4
                replace p443 := eq_true p443
                replace q443 := eq_true q443
                have p444 : 0 ≤ (x7_1 : Int) := of_decide_eq_true zz9
                have q444 : x7_1 < (l1.length : Int) := of_decide_eq_true zz9
                obtain ⟨ad444, A444_4, c444_4, e444, hx444_0, hx444_1, hx444_2, hx444_3, hx444_4, hx444_5, hl444_4, hi444_4⟩ := at_T30 HR1.out x7_1 p444 q444
                have hw444_5 := hx444_5
                have hw444_4 := hx444_4
                have hw444_3 := hx444_3
                have hw444_2 := hx444_2
                have hw444_1 := hx444_1
                have hw444_0 := hx444_0
                cases e444
                replace hx444_0 := (HB.out.cell (World.block_lt_of_cell? w _ hx444_0)).trans hx444_0
                replace hx444_1 := (HB.out.cell (World.block_lt_of_cell? w _ hx444_1)).trans hx444_1
                replace hx444_2 := (HB.out.cell (World.block_lt_of_cell? w _ hx444_2)).trans hx444_2
                replace hx444_3 := (HB.out.cell (World.block_lt_of_cell? w _ hx444_3)).trans hx444_3
                replace hx444_4 := (HB.out.cell (World.block_lt_of_cell? w _ hx444_4)).trans hx444_4
                replace hx444_5 := (HB.out.cell (World.block_lt_of_cell? w _ hx444_5)).trans hx444_5
                have HR444_4 := Aside0.mk hi444_4
                have HC444_4 := Aside0.mk hl444_4
                clear hi444_4 hl444_4
                replace p444 := eq_true p444
                replace q444 := eq_true q444
                refine start_ (n := 11) (S := fun w' => w'.cell? (ad443.add ((x7_1).toNat * 6)) = some (.int .i64 ((rd_T30 l0 x7_1).f0)) ∧ w'.cell? ⟨(ad443.add ((x7_1).toNat * 6)).block, (ad443.add ((x7_1).toNat * 6)).off + 1, none⟩ = some (.int .i64 ((rd_T30 l0 x7_1).f1)) ∧ w'.cell? ⟨(ad443.add ((x7_1).toNat * 6)).block, (ad443.add ((x7_1).toNat * 6)).off + 2, none⟩ = some (.string ((rd_T30 l0 x7_1).f2)) ∧ w'.cell? ⟨(ad443.add ((x7_1).toNat * 6)).block, (ad443.add ((x7_1).toNat * 6)).off + 3, none⟩ = some (.string ((rd_T30 l0 x7_1).f3)) ∧ w'.cell? ⟨(ad443.add ((x7_1).toNat * 6)).block, (ad443.add ((x7_1).toNat * 6)).off + 4, none⟩ = some (.slice A443_4 ((rd_T30 l0 x7_1).f4).length c443_4) ∧ w'.cell? ⟨(ad443.add ((x7_1).toNat * 6)).block, (ad443.add ((x7_1).toNat * 6)).off + 5, none⟩ = some (.bool ((rd_T30 l0 x7_1).f5)) ∧ w'.cell? (ad444.add ((x7_1).toNat * 6)) = some (.int .i64 ((rd_T30 l1 x7_1).f0)) ∧ w'.cell? ⟨(ad444.add ((x7_1).toNat * 6)).block, (ad444.add ((x7_1).toNat * 6)).off + 1, none⟩ = some (.int .i64 ((rd_T30 l1 x7_1).f1)) ∧ w'.cell? ⟨(ad444.add ((x7_1).toNat * 6)).block, (ad444.add ((x7_1).toNat * 6)).off + 2, none⟩ = some (.string ((rd_T30 l1 x7_1).f2)) ∧ w'.cell? ⟨(ad444.add ((x7_1).toNat * 6)).block, (ad444.add ((x7_1).toNat * 6)).off + 3, none⟩ = some (.string ((rd_T30 l1 x7_1).f3)) ∧ w'.cell? ⟨(ad444.add ((x7_1).toNat * 6)).block, (ad444.add ((x7_1).toNat * 6)).off + 4, none⟩ = some (.slice A444_4 ((rd_T30 l1 x7_1).f4).length c444_4) ∧ w'.cell? ⟨(ad444.add ((x7_1).toNat * 6)).block, (ad444.add ((x7_1).toNat * 6)).off + 5, none⟩ = some (.bool ((rd_T30 l1 x7_1).f5))) (ds := []) #[false, false, false, false, false, false, false, false, false, false, false] zz29 rfl rfl ⟨((HB.out.cell (World.block_lt_of_cell? w _ hw443_0)).trans hw443_0), ((HB.out.cell (World.block_lt_of_cell? w _ hw443_1)).trans hw443_1), ((HB.out.cell (World.block_lt_of_cell? w _ hw443_2)).trans hw443_2), ((HB.out.cell (World.block_lt_of_cell? w _ hw443_3)).trans hw443_3), ((HB.out.cell (World.block_lt_of_cell? w _ hw443_4)).trans hw443_4), ((HB.out.cell (World.block_lt_of_cell? w _ hw443_5)).trans hw443_5), ((HB.out.cell (World.block_lt_of_cell? w _ hw444_0)).trans hw444_0), ((HB.out.cell (World.block_lt_of_cell? w _ hw444_1)).trans hw444_1), ((HB.out.cell (World.block_lt_of_cell? w _ hw444_2)).trans hw444_2), ((HB.out.cell (World.block_lt_of_cell? w _ hw444_3)).trans hw444_3), ((HB.out.cell (World.block_lt_of_cell? w _ hw444_4)).trans hw444_4), ((HB.out.cell (World.block_lt_of_cell? w _ hw444_5)).trans hw444_5)⟩ (fun hHeld => ?_); refine with_tabW cardexhelp_Same_api_Token_cardexhelp_Token.tab6 cardexhelp_Same_api_Token_cardexhelp_Token.bits6 (fun HT_ HW_ => ?_)
                generalize wr.drew = w10 at HB HR443_4 HR444_4 hx443_0 hx443_1 hx443_2 hx443_3 hx443_4 hx443_5 hx444_0 hx444_1 hx444_2 hx444_3 hx444_4 hx444_5 hHeld ⊢
                refine pz 0 (some 19) ?_; refine pz 1 (some 20) ?_; refine pz 2 (some 21) ?_; refine pz 3 (some 22) ?_; refine pz 5 (some 24) ?_; refine pz 6 (some 25) ?_; refine pz 7 (some 26) ?_; refine t12 4 (some 23) ?_; refine t12 8 (some 27) ?_
                refine one_ (i := 9) (N := some 28) #[true, true, true, true, true, true, true, true, true, true, false] rfl rfl (one_of HT_.out zz29) (by decide) (fun K hK => ?_)
                refine goesR0 (by rfl) (by first | rfl | (simp; done)) ⟨⟨_, Tryz.func8, zz29, rfl⟩⟩ #[.agg #[.int .i64 ((rd_T30 l0 x7_1).f0), .int .i64 ((rd_T30 l0 x7_1).f1), .string ((rd_T30 l0 x7_1).f2), .string ((rd_T30 l0 x7_1).f3), .slice A443_4 ((rd_T30 l0 x7_1).f4).length c443_4, .bool ((rd_T30 l0 x7_1).f5)], .agg #[.int .i64 ((rd_T30 l1 x7_1).f0), .int .i64 ((rd_T30 l1 x7_1).f1), .string ((rd_T30 l1 x7_1).f2), .string ((rd_T30 l1 x7_1).f3), .slice A444_4 ((rd_T30 l1 x7_1).f4).length c444_4, .bool ((rd_T30 l1 x7_1).f5)]] (by rfl) rfl zz1 ?_
                with_reducible refine (cardexhelp_Token.calls k1 ((rd_T30 l0 x7_1).f0) ((rd_T30 l0 x7_1).f1) ((rd_T30 l0 x7_1).f2) ((rd_T30 l0 x7_1).f3) _ _ ((rd_T30 l0 x7_1).f4) ((rd_T30 l0 x7_1).f5) ((rd_T30 l1 x7_1).f0) ((rd_T30 l1 x7_1).f1) ((rd_T30 l1 x7_1).f2) ((rd_T30 l1 x7_1).f3) _ _ ((rd_T30 l1 x7_1).f4) ((rd_T30 l1 x7_1).f5) true _ ?side1 ?side2 ?side3 ?side4 A8.out).mono ?_
                (case side1 => exact (by repeat (first | exact (Kd.C_below HR443_4.out HB.out) | (with_reducible refine Kd.C_alloc ?_ _) | (with_reducible refine Kd.C_drewN ?_ _) | (with_reducible refine Kd.C_drew ?_))))
                (case side2 => exact HC443_4.out)
                (case side3 => exact (by repeat (first | exact (Kd.C_below HR444_4.out HB.out) | (with_reducible refine Kd.C_alloc ?_ _) | (with_reducible refine Kd.C_drewN ?_ _) | (with_reducible refine Kd.C_drew ?_))))
                (case side4 => exact HC444_4.out)
                rintro e w11 ⟨rfl, hb⟩
                refine ⟨_, rfl, ?_⟩
                have n0_ := Aside0.mk (below_step zz0 hb)
                clear HB
                have HB := n0_
                clear n0_
                (try clear hb)
                (try clear hb2)
                (try clear hk)
                (try clear hi)
                refine hK.out _ _ ⟨((HB.out.cell (World.block_lt_of_cell? w _ hw443_0)).trans hw443_0), ((HB.out.cell (World.block_lt_of_cell? w _ hw443_1)).trans hw443_1), ((HB.out.cell (World.block_lt_of_cell? w _ hw443_2)).trans hw443_2), ((HB.out.cell (World.block_lt_of_cell? w _ hw443_3)).trans hw443_3), ((HB.out.cell (World.block_lt_of_cell? w _ hw443_4)).trans hw443_4), ((HB.out.cell (World.block_lt_of_cell? w _ hw443_5)).trans hw443_5), ((HB.out.cell (World.block_lt_of_cell? w _ hw444_0)).trans hw444_0), ((HB.out.cell (World.block_lt_of_cell? w _ hw444_1)).trans hw444_1), ((HB.out.cell (World.block_lt_of_cell? w _ hw444_2)).trans hw444_2), ((HB.out.cell (World.block_lt_of_cell? w _ hw444_3)).trans hw444_3), ((HB.out.cell (World.block_lt_of_cell? w _ hw444_4)).trans hw444_4), ((HB.out.cell (World.block_lt_of_cell? w _ hw444_5)).trans hw444_5)⟩ (fun hHeld => ?_)
                clear hK K
                refine norm_ (a' := ?_) ?_ ?_
                rotate_left
                · show Act.put _ (some 28) _ = _
                  simp only [Act.put, List.setIfInBounds_toArray, List.set_cons_zero, List.set_cons_succ, i64_w, i32_w]
                  rfl
                refine pz 10 (some 29) ?_
                refine done_ (done_of HT_.out zz29) ?_
                try go_wp2
                go_roundg k1
                case measure => have := HK1.out; omega
                case rel => exact ⟨(wrap64 (x7_1 + 1)), zz2, H', ⟨by have := HK1.out; omega⟩, ⟨zz0⟩⟩
              · replace c9 := Bool.eq_false_iff.mpr c9
                subst c9
                have H1 : (some false) = some r := by rw [if_neg (show ¬ (false = true) by decide)] at H; exact H
                clear H
                have H := H1
                clear H1
                obtain rfl := Option.some.inj H
                try go_wp2
                have n0_ := Aside0.mk (below_drew1 HB.out)
                clear HB
                have HB := n0_
                clear n0_
                have p443 : 0 ≤ (x7_1 : Int) := of_decide_eq_true zz9
                have q443 : x7_1 < (l0.length : Int) := of_decide_eq_true zz9
                obtain ⟨ad443, A443_4, c443_4, e443, hx443_0, hx443_1, hx443_2, hx443_3, hx443_4, hx443_5, hl443_4, hi443_4⟩ := at_T30 HR0.out x7_1 p443 q443
                have hw443_5 := hx443_5
                have hw443_4 := hx443_4
                have hw443_3 := hx443_3
                have hw443_2 := hx443_2
                have hw443_1 := hx443_1
                have hw443_0 := hx443_0
                cases e443
                replace hx443_0 := (HB.out.cell (World.block_lt_of_cell? w _ hx443_0)).trans hx443_0
                replace hx443_1 := (HB.out.cell (World.block_lt_of_cell? w _ hx443_1)).trans hx443_1
                replace hx443_2 := (HB.out.cell (World.block_lt_of_cell? w _ hx443_2)).trans hx443_2
                replace hx443_3 := (HB.out.cell (World.block_lt_of_cell? w _ hx443_3)).trans hx443_3
                replace hx443_4 := (HB.out.cell (World.block_lt_of_cell? w _ hx443_4)).trans hx443_4
                replace hx443_5 := (HB.out.cell (World.block_lt_of_cell? w _ hx443_5)).trans hx443_5
                have HR443_4 := Aside0.mk hi443_4
                have HC443_4 := Aside0.mk hl443_4
                clear hi443_4 hl443_4
                replace p443 := eq_true p443
                replace q443 := eq_true q443
                have p444 : 0 ≤ (x7_1 : Int) := of_decide_eq_true zz9
                have q444 : x7_1 < (l1.length : Int) := of_decide_eq_true zz9
                obtain ⟨ad444, A444_4, c444_4, e444, hx444_0, hx444_1, hx444_2, hx444_3, hx444_4, hx444_5, hl444_4, hi444_4⟩ := at_T30 HR1.out x7_1 p444 q444
                have hw444_5 := hx444_5
                have hw444_4 := hx444_4
                have hw444_3 := hx444_3
                have hw444_2 := hx444_2
                have hw444_1 := hx444_1
                have hw444_0 := hx444_0
                cases e444
                replace hx444_0 := (HB.out.cell (World.block_lt_of_cell? w _ hx444_0)).trans hx444_0
                replace hx444_1 := (HB.out.cell (World.block_lt_of_cell? w _ hx444_1)).trans hx444_1
                replace hx444_2 := (HB.out.cell (World.block_lt_of_cell? w _ hx444_2)).trans hx444_2
                replace hx444_3 := (HB.out.cell (World.block_lt_of_cell? w _ hx444_3)).trans hx444_3
                replace hx444_4 := (HB.out.cell (World.block_lt_of_cell? w _ hx444_4)).trans hx444_4
                replace hx444_5 := (HB.out.cell (World.block_lt_of_cell? w _ hx444_5)).trans hx444_5
                have HR444_4 := Aside0.mk hi444_4
                have HC444_4 := Aside0.mk hl444_4
                clear hi444_4 hl444_4
                replace p444 := eq_true p444
                replace q444 := eq_true q444
                refine start_ (n := 11) (S := fun w' => w'.cell? (ad443.add ((x7_1).toNat * 6)) = some (.int .i64 ((rd_T30 l0 x7_1).f0)) ∧ w'.cell? ⟨(ad443.add ((x7_1).toNat * 6)).block, (ad443.add ((x7_1).toNat * 6)).off + 1, none⟩ = some (.int .i64 ((rd_T30 l0 x7_1).f1)) ∧ w'.cell? ⟨(ad443.add ((x7_1).toNat * 6)).block, (ad443.add ((x7_1).toNat * 6)).off + 2, none⟩ = some (.string ((rd_T30 l0 x7_1).f2)) ∧ w'.cell? ⟨(ad443.add ((x7_1).toNat * 6)).block, (ad443.add ((x7_1).toNat * 6)).off + 3, none⟩ = some (.string ((rd_T30 l0 x7_1).f3)) ∧ w'.cell? ⟨(ad443.add ((x7_1).toNat * 6)).block, (ad443.add ((x7_1).toNat * 6)).off + 4, none⟩ = some (.slice A443_4 ((rd_T30 l0 x7_1).f4).length c443_4) ∧ w'.cell? ⟨(ad443.add ((x7_1).toNat * 6)).block, (ad443.add ((x7_1).toNat * 6)).off + 5, none⟩ = some (.bool ((rd_T30 l0 x7_1).f5)) ∧ w'.cell? (ad444.add ((x7_1).toNat * 6)) = some (.int .i64 ((rd_T30 l1 x7_1).f0)) ∧ w'.cell? ⟨(ad444.add ((x7_1).toNat * 6)).block, (ad444.add ((x7_1).toNat * 6)).off + 1, none⟩ = some (.int .i64 ((rd_T30 l1 x7_1).f1)) ∧ w'.cell? ⟨(ad444.add ((x7_1).toNat * 6)).block, (ad444.add ((x7_1).toNat * 6)).off + 2, none⟩ = some (.string ((rd_T30 l1 x7_1).f2)) ∧ w'.cell? ⟨(ad444.add ((x7_1).toNat * 6)).block, (ad444.add ((x7_1).toNat * 6)).off + 3, none⟩ = some (.string ((rd_T30 l1 x7_1).f3)) ∧ w'.cell? ⟨(ad444.add ((x7_1).toNat * 6)).block, (ad444.add ((x7_1).toNat * 6)).off + 4, none⟩ = some (.slice A444_4 ((rd_T30 l1 x7_1).f4).length c444_4) ∧ w'.cell? ⟨(ad444.add ((x7_1).toNat * 6)).block, (ad444.add ((x7_1).toNat * 6)).off + 5, none⟩ = some (.bool ((rd_T30 l1 x7_1).f5))) (ds := []) #[false, false, false, false, false, false, false, false, false, false, false] zz29 rfl rfl ⟨((HB.out.cell (World.block_lt_of_cell? w _ hw443_0)).trans hw443_0), ((HB.out.cell (World.block_lt_of_cell? w _ hw443_1)).trans hw443_1), ((HB.out.cell (World.block_lt_of_cell? w _ hw443_2)).trans hw443_2), ((HB.out.cell (World.block_lt_of_cell? w _ hw443_3)).trans hw443_3), ((HB.out.cell (World.block_lt_of_cell? w _ hw443_4)).trans hw443_4), ((HB.out.cell (World.block_lt_of_cell? w _ hw443_5)).trans hw443_5), ((HB.out.cell (World.block_lt_of_cell? w _ hw444_0)).trans hw444_0), ((HB.out.cell (World.block_lt_of_cell? w _ hw444_1)).trans hw444_1), ((HB.out.cell (World.block_lt_of_cell? w _ hw444_2)).trans hw444_2), ((HB.out.cell (World.block_lt_of_cell? w _ hw444_3)).trans hw444_3), ((HB.out.cell (World.block_lt_of_cell? w _ hw444_4)).trans hw444_4), ((HB.out.cell (World.block_lt_of_cell? w _ hw444_5)).trans hw444_5)⟩ (fun hHeld => ?_); refine with_tabW cardexhelp_Same_api_Token_cardexhelp_Token.tab6 cardexhelp_Same_api_Token_cardexhelp_Token.bits6 (fun HT_ HW_ => ?_)
                generalize wr.drew = w12 at HB HR443_4 HR444_4 hx443_0 hx443_1 hx443_2 hx443_3 hx443_4 hx443_5 hx444_0 hx444_1 hx444_2 hx444_3 hx444_4 hx444_5 hHeld ⊢
                refine pz 0 (some 19) ?_; refine pz 1 (some 20) ?_; refine pz 2 (some 21) ?_; refine pz 3 (some 22) ?_; refine pz 5 (some 24) ?_; refine pz 6 (some 25) ?_; refine pz 7 (some 26) ?_; refine t12 4 (some 23) ?_; refine t12 8 (some 27) ?_
                refine one_ (i := 9) (N := some 28) #[true, true, true, true, true, true, true, true, true, true, false] rfl rfl (one_of HT_.out zz29) (by decide) (fun K hK => ?_)
                refine goesR0 (by rfl) (by first | rfl | (simp; done)) ⟨⟨_, Tryz.func8, zz29, rfl⟩⟩ #[.agg #[.int .i64 ((rd_T30 l0 x7_1).f0), .int .i64 ((rd_T30 l0 x7_1).f1), .string ((rd_T30 l0 x7_1).f2), .string ((rd_T30 l0 x7_1).f3), .slice A443_4 ((rd_T30 l0 x7_1).f4).length c443_4, .bool ((rd_T30 l0 x7_1).f5)], .agg #[.int .i64 ((rd_T30 l1 x7_1).f0), .int .i64 ((rd_T30 l1 x7_1).f1), .string ((rd_T30 l1 x7_1).f2), .string ((rd_T30 l1 x7_1).f3), .slice A444_4 ((rd_T30 l1 x7_1).f4).length c444_4, .bool ((rd_T30 l1 x7_1).f5)]] (by rfl) rfl zz1 ?_
                with_reducible refine (cardexhelp_Token.calls k1 ((rd_T30 l0 x7_1).f0) ((rd_T30 l0 x7_1).f1) ((rd_T30 l0 x7_1).f2) ((rd_T30 l0 x7_1).f3) _ _ ((rd_T30 l0 x7_1).f4) ((rd_T30 l0 x7_1).f5) ((rd_T30 l1 x7_1).f0) ((rd_T30 l1 x7_1).f1) ((rd_T30 l1 x7_1).f2) ((rd_T30 l1 x7_1).f3) _ _ ((rd_T30 l1 x7_1).f4) ((rd_T30 l1 x7_1).f5) false _ ?side1 ?side2 ?side3 ?side4 A8.out).mono ?_
                (case side1 => exact (by repeat (first | exact (Kd.C_below HR443_4.out HB.out) | (with_reducible refine Kd.C_alloc ?_ _) | (with_reducible refine Kd.C_drewN ?_ _) | (with_reducible refine Kd.C_drew ?_))))
                (case side2 => exact HC443_4.out)
                (case side3 => exact (by repeat (first | exact (Kd.C_below HR444_4.out HB.out) | (with_reducible refine Kd.C_alloc ?_ _) | (with_reducible refine Kd.C_drewN ?_ _) | (with_reducible refine Kd.C_drew ?_))))
                (case side4 => exact HC444_4.out)
                rintro e w13 ⟨rfl, hb⟩
                refine ⟨_, rfl, ?_⟩
                have n0_ := Aside0.mk (below_step zz0 hb)
                clear HB
                have HB := n0_
                clear n0_
                (try clear hb)
                (try clear hb2)
                (try clear hk)
                (try clear hi)
                refine hK.out _ _ ⟨((HB.out.cell (World.block_lt_of_cell? w _ hw443_0)).trans hw443_0), ((HB.out.cell (World.block_lt_of_cell? w _ hw443_1)).trans hw443_1), ((HB.out.cell (World.block_lt_of_cell? w _ hw443_2)).trans hw443_2), ((HB.out.cell (World.block_lt_of_cell? w _ hw443_3)).trans hw443_3), ((HB.out.cell (World.block_lt_of_cell? w _ hw443_4)).trans hw443_4), ((HB.out.cell (World.block_lt_of_cell? w _ hw443_5)).trans hw443_5), ((HB.out.cell (World.block_lt_of_cell? w _ hw444_0)).trans hw444_0), ((HB.out.cell (World.block_lt_of_cell? w _ hw444_1)).trans hw444_1), ((HB.out.cell (World.block_lt_of_cell? w _ hw444_2)).trans hw444_2), ((HB.out.cell (World.block_lt_of_cell? w _ hw444_3)).trans hw444_3), ((HB.out.cell (World.block_lt_of_cell? w _ hw444_4)).trans hw444_4), ((HB.out.cell (World.block_lt_of_cell? w _ hw444_5)).trans hw444_5)⟩ (fun hHeld => ?_)
                clear hK K
                refine norm_ (a' := ?_) ?_ ?_
                rotate_left
                · show Act.put _ (some 28) _ = _
                  simp only [Act.put, List.setIfInBounds_toArray, List.set_cons_zero, List.set_cons_succ, i64_w, i32_w]
                  rfl
                refine pz 10 (some 29) ?_
                refine done_ (done_of HT_.out zz29) ?_
                try go_wp2
                go_ret
                exact ⟨zz4, zz0⟩
            · rw [if_neg c7] at H
              exact absurd H (by simp)
          · rw [if_neg c6] at H
            exact absurd H (by simp)
        · rw [if_neg c5] at H
          have c5b0 : decide (x7_1 < (l0.length : Int)) = false := decide_eq_false c5
          clear c5
          obtain rfl := Option.some.inj H
          go_wp2
          go_ret
          exact ⟨zz4, zz0⟩
  · rw [if_neg c4] at H
    have c4b0 : ((l0.length : Int) == (l1.length : Int)) = false := beq_eq_false_iff_ne.mpr c4
    have c4b1 : ((l0.length : Int) != (l1.length : Int)) = true := bne_iff_ne.mpr c4
    have c4b2 : (l0.length == l1.length) = false := by first | simpa using c4 | (simp at c4 ⊢; omega)
    obtain rfl := Option.some.inj H
    go_enter Tryz.func7, Tryz.ntmps7
    go_wp2
    go_ret
    exact ⟨zz4, zz0⟩
def cardexlaw08_TokenTells.f (k : Nat) (a0 : ByteArray) : Option (Bool) := if (a0.size : Int) > 4000 then ((cardexlaw08_awake.f k).bind fun t446 => (if t446 = true then (some true) else (some false))) else ((token_Tokens.f k a0).bind fun bt447 => ((cardexref08_Tokens.f k a0).bind fun bt452 => ((cardexlaw08_awake.f k).bind fun t457 => (if t457 = true then ((cardexhelp_Same_api_Token_cardexhelp_Token.f k bt447.1 bt452.1).bind fun t458 => (if t458 = true then (if bt447.2.1 = bt452.2.1 then (if bt447.2.2 = bt452.2.2 then (some true) else (some false)) else (some false)) else (some false))) else (some false)))))
set_option maxHeartbeats 8000000 in
set_option maxRecDepth 100000 in
theorem cardexlaw08_TokenTells.calls (k : Nat) (a0 : ByteArray) (r : Bool) (w : World) (h : cardexlaw08_TokenTells.f k a0 = some r) (hT : Tabs w) (hlaw : r = true) :
    Calls Tryz.prog 3 #[.string a0] w fun e w' => e = .returned (.bool r) ∧ Below w.heap.size w w' := by
  have HT := Aside0.mk hT
  clear hT
  have HLAW := Aside0.mk hlaw
  clear hlaw
  have HB := Aside0.mk (Below.refl w.heap.size w)
  have H : (if (a0.size : Int) > 4000 then ((cardexlaw08_awake.f k).bind fun t446 => (if t446 = true then (some true) else (some false))) else ((token_Tokens.f k a0).bind fun bt447 => ((cardexref08_Tokens.f k a0).bind fun bt452 => ((cardexlaw08_awake.f k).bind fun t457 => (if t457 = true then ((cardexhelp_Same_api_Token_cardexhelp_Token.f k bt447.1 bt452.1).bind fun t458 => (if t458 = true then (if bt447.2.1 = bt452.2.1 then (if bt447.2.2 = bt452.2.2 then (some true) else (some false)) else (some false)) else (some false))) else (some false)))))) = some r := h
  clear h
  by_cases c2 : (a0.size : Int) > 4000
  · rw [if_pos c2] at H
    have c2b0 : decide (4000 < (a0.size : Int)) = true := decide_eq_true c2
    have c2b1 : decide (4000 < a0.size) = true := decide_eq_true (by omega)
    clear c2
    replace H := Option.bind_eq_some_iff.mp H
    obtain ⟨t446, A30, H⟩ := H
    replace H : (if t446 = true then (some true) else (some false)) = some r := H
    have A3 := Aside0.mk A30
    clear A30
    by_cases c4 : t446 = true
    · subst c4
      have H1 : (some true) = some r := by rw [if_pos rfl] at H; exact H
      clear H
      have H := H1
      clear H1
      obtain rfl := Option.some.inj H
      go_enter Tryz.func3, Tryz.ntmps3
      go_wp2_with (first | ((with_reducible refine gate_callee (f := 4) rfl ?_); refine goesL_ (some 12) rfl rfl Tryz.func4 zz29 rfl #[] rfl zz1 ?_; (with_reducible refine (cardexlaw08_awake.calls k  true _ A3.out (tabs_b HT.out zz0)).mono ?_); rintro e w5 ⟨rfl, hb⟩; refine ⟨_, rfl, ?_⟩; have n0_ := Aside0.mk (below_step zz0 hb); clear HB; have HB := n0_; clear n0_; (try clear hb); (try clear hb2); (try clear hk); (try clear hi)))
      go_ret
      exact ⟨zz4, zz0⟩
    · replace c4 := Bool.eq_false_iff.mpr c4
      subst c4
      have H1 : (some false) = some r := by rw [if_neg (show ¬ (false = true) by decide)] at H; exact H
      clear H
      have H := H1
      clear H1
      exact absurd ((Option.some.inj H).trans HLAW.out) (by decide)
  · rw [if_neg c2] at H
    have c2b0 : decide (4000 < (a0.size : Int)) = false := decide_eq_false c2
    have c2b1 : decide (4000 < a0.size) = false := decide_eq_false (by omega)
    clear c2
    replace H := Option.bind_eq_some_iff.mp H
    obtain ⟨⟨t447, t448, t449⟩, A60, H⟩ := H
    replace H : ((cardexref08_Tokens.f k a0).bind fun bt452 => ((cardexlaw08_awake.f k).bind fun t457 => (if t457 = true then ((cardexhelp_Same_api_Token_cardexhelp_Token.f k t447 bt452.1).bind fun t458 => (if t458 = true then (if t448 = bt452.2.1 then (if t449 = bt452.2.2 then (some true) else (some false)) else (some false)) else (some false))) else (some false)))) = some r := H
    have A6 := Aside0.mk A60
    clear A60
    replace H := Option.bind_eq_some_iff.mp H
    obtain ⟨⟨t452, t453, t454⟩, A70, H⟩ := H
    replace H : ((cardexlaw08_awake.f k).bind fun t457 => (if t457 = true then ((cardexhelp_Same_api_Token_cardexhelp_Token.f k t447 t452).bind fun t458 => (if t458 = true then (if t448 = t453 then (if t449 = t454 then (some true) else (some false)) else (some false)) else (some false))) else (some false))) = some r := H
    have A7 := Aside0.mk A70
    clear A70
    replace H := Option.bind_eq_some_iff.mp H
    obtain ⟨t457, A80, H⟩ := H
    replace H : (if t457 = true then ((cardexhelp_Same_api_Token_cardexhelp_Token.f k t447 t452).bind fun t458 => (if t458 = true then (if t448 = t453 then (if t449 = t454 then (some true) else (some false)) else (some false)) else (some false))) else (some false)) = some r := H
    have A8 := Aside0.mk A80
    clear A80
    by_cases c9 : t457 = true
    · subst c9
      have H1 : ((cardexhelp_Same_api_Token_cardexhelp_Token.f k t447 t452).bind fun t458 => (if t458 = true then (if t448 = t453 then (if t449 = t454 then (some true) else (some false)) else (some false)) else (some false))) = some r := by rw [if_pos rfl] at H; exact H
      clear H
      have H := H1
      clear H1
      replace H := Option.bind_eq_some_iff.mp H
      obtain ⟨t458, A100, H⟩ := H
      replace H : (if t458 = true then (if t448 = t453 then (if t449 = t454 then (some true) else (some false)) else (some false)) else (some false)) = some r := H
      have A10 := Aside0.mk A100
      clear A100
      by_cases c11 : t458 = true
      · subst c11
        have H1 : (if t448 = t453 then (if t449 = t454 then (some true) else (some false)) else (some false)) = some r := by rw [if_pos rfl] at H; exact H
        clear H
        have H := H1
        clear H1
        by_cases c12 : t448 = t453
        · rw [if_pos c12] at H
          have c12b0 : (t448 == t453) = true := beq_iff_eq.mpr c12
          have c12b1 : (t448 != t453) = false := bne_eq_false_iff_eq.mpr c12
          clear c12
          by_cases c13 : t449 = t454
          · rw [if_pos c13] at H
            have c13b0 : (t449 == t454) = true := beq_iff_eq.mpr c13
            have c13b1 : (t449 != t454) = false := bne_eq_false_iff_eq.mpr c13
            clear c13
            obtain rfl := Option.some.inj H
            go_enter Tryz.func3, Tryz.ntmps3
            go_wp2_with (first | ((with_reducible refine gate_callee (f := 5) rfl ?_); refine goesL_ (some 15) rfl rfl Tryz.func5 zz29 rfl #[.string a0] rfl zz1 ?_; (with_reducible refine (token_Tokens.calls k a0 t447 t448 t449 _ A6.out (tabs_b HT.out zz0)).mono ?_); rintro e w14 ⟨v450, rfl, ho0, hb⟩; refine ⟨_, rfl, ?_⟩; have n0_ := Aside0.mk (Kd.S_lower ho0 (below_size zz0)); have n1_ := Aside0.mk (below_step zz0 hb); clear HB; have HO451 := n0_; have HB := n1_; clear n0_ n1_; (try clear hb); (try clear hb2); (try clear hk); (try clear hi); (try clear ho0)) | ((with_reducible refine gate_callee (f := 6) rfl ?_); refine goesL_ (some 21) rfl rfl Tryz.func6 zz29 rfl #[.string a0] rfl zz1 ?_; (with_reducible refine (cardexref08_Tokens.calls k a0 t452 t453 t454 _ A7.out).mono ?_); rintro e w15 ⟨v455, rfl, ho0, hb⟩; refine ⟨_, rfl, ?_⟩; have n0_ := Aside0.mk (Kd.S_elder' zz85 (Kd.S_base ho0) hb); have n1_ := Aside0.mk (Kd.S_lower (Kd.S_new' ho0 (Kd.S_lt zz85)) (below_size zz0)); have n2_ := Aside0.mk (below_step zz0 hb); clear HO451; clear HB; have HO451 := n0_; have HO456 := n1_; have HB := n2_; clear n0_ n1_ n2_; (try clear hb); (try clear hb2); (try clear hk); (try clear hi); (try clear ho0)) | ((with_reducible refine gate_callee (f := 4) rfl ?_); refine goesL_ (some 25) rfl rfl Tryz.func4 zz29 rfl #[] rfl zz1 ?_; (with_reducible refine (cardexlaw08_awake.calls k  true _ A8.out (tabs_b HT.out zz0)).mono ?_); rintro e w16 ⟨rfl, hb⟩; refine ⟨_, rfl, ?_⟩; have n0_ := Aside0.mk (Kd.S_below zz85 hb); have n1_ := Aside0.mk (Kd.S_below (by (with_reducible repeat (first | apply Kd.S_alloc | apply Kd.S_drewN | apply Kd.S_drew)); exact HO456.out) hb); have n2_ := Aside0.mk (below_step zz0 hb); clear HO451; clear HO456; clear HB; have HO451 := n0_; have HO456 := n1_; have HB := n2_; clear n0_ n1_ n2_; (try clear hb); (try clear hb2); (try clear hk); (try clear hi); obtain ⟨Ao17, co17, eo17⟩ := Kd.S_slice HO451.out; subst eo17; obtain ⟨Ao18, co18, eo18⟩ := Kd.S_slice HO456.out; subst eo18) | (go_at_call 7; (with_reducible refine (cardexhelp_Same_api_Token_cardexhelp_Token.calls k _ _ t447 _ _ t452  true _ ?side1 ?side2 ?side3 ?side4 A10.out).mono ?_); (case side1 => exact (by repeat (first | exact (Kd.S_reads' HO451.out).2.2 | (with_reducible refine Kd.C_alloc ?_ _) | (with_reducible refine Kd.C_drewN ?_ _) | (with_reducible refine Kd.C_drew ?_)))); (case side2 => exact (Kd.S_reads' HO451.out).2.1); (case side3 => exact (by repeat (first | exact (Kd.S_reads' HO456.out).2.2 | (with_reducible refine Kd.C_alloc ?_ _) | (with_reducible refine Kd.C_drewN ?_ _) | (with_reducible refine Kd.C_drew ?_)))); (case side4 => exact (Kd.S_reads' HO456.out).2.1); rintro e w19 ⟨rfl, hb⟩; have n0_ := Aside0.mk (Kd.S_below zz85 hb); have n1_ := Aside0.mk (Kd.S_below (by (with_reducible repeat (first | apply Kd.S_alloc | apply Kd.S_drewN | apply Kd.S_drew)); exact HO456.out) hb); have n2_ := Aside0.mk (below_step zz0 hb); clear HO451; clear HO456; clear HB; have HO451 := n0_; have HO456 := n1_; have HB := n2_; clear n0_ n1_ n2_; (try clear hb); (try clear hb2); (try clear hk); (try clear hi)))
            go_ret
            exact ⟨zz4, zz0⟩
          · rw [if_neg c13] at H
            have c13b0 : (t449 == t454) = false := beq_eq_false_iff_ne.mpr c13
            have c13b1 : (t449 != t454) = true := bne_iff_ne.mpr c13
            exact absurd ((Option.some.inj H).trans HLAW.out) (by decide)
        · rw [if_neg c12] at H
          have c12b0 : (t448 == t453) = false := beq_eq_false_iff_ne.mpr c12
          have c12b1 : (t448 != t453) = true := bne_iff_ne.mpr c12
          exact absurd ((Option.some.inj H).trans HLAW.out) (by decide)
      · replace c11 := Bool.eq_false_iff.mpr c11
        subst c11
        have H1 : (some false) = some r := by rw [if_neg (show ¬ (false = true) by decide)] at H; exact H
        clear H
        have H := H1
        clear H1
        exact absurd ((Option.some.inj H).trans HLAW.out) (by decide)
    · replace c9 := Bool.eq_false_iff.mpr c9
      subst c9
      have H1 : (some false) = some r := by rw [if_neg (show ¬ (false = true) by decide)] at H; exact H
      clear H
      have H := H1
      clear H1
      exact absurd ((Option.some.inj H).trans HLAW.out) (by decide)
end Go.Proofs.YtjijbncheikagaaGreatDoor.Q
