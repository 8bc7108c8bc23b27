-- Written by hookprint.py (wip/) of this session: the kit's print with hand-proved functions beside it. Not trusted: Lean checks it.
import Derived.Test.YtjijbncheikagaaGreatDoorQ0
import Derived.Test.YtjijbncheikagaaGreatDoorQ1
import Derived.Test.YtjijbncheikagaaGreatDoorQ8
import Derived.Test.YtjijbncheikagaaGreatDoorQ14
namespace Go.Proofs.YtjijbncheikagaaGreatDoor.Q
open List (setIfInBounds_toArray set_cons_zero set_cons_succ)
open Go.RowKit Go.Lib Go.Proofs.YtjijbncheikagaaGreatDoorX Go.Proofs.YtjijbncheikagaaGreatDoorW.PrintWords Go.Proofs.YtjijbncheikagaaGreatDoorW.PrintLast Go.Proofs.YtjijbncheikagaaGreatDoorW.PrintMore
set_option linter.unusedVariables false
set_option linter.unusedSimpArgs false
attribute [local go_sem high] eqA45
def cardexref08_Tokens.l0 : Nat → ByteArray → List (S30) → ByteArray → Int → Option ((List (S30)) × Int × Int)
  | 0, _, _, _, _ => none
  | k + 1, x0, x6, x416000, x416001 => if x416001 < (x0.size : Int) then ((cardexref08_walk_token.f k x416000 x416001).bind fun bt419 => (if bt419.2.2.2.2.2.2.1 = true then (if (bt419.2.2.2.2.1.length : Int) > 10 then (some (([] : List (S30)), x416001, 4)) else (if x6.length < 1759218604441 then (cardexref08_Tokens.l0 k x0 (x6 ++ [(⟨bt419.1, bt419.2.1, bt419.2.2.1, bt419.2.2.2.1, bt419.2.2.2.2.1, bt419.2.2.2.2.2.1⟩ : S30)]) bt419.2.2.2.2.2.2.2.1 bt419.2.2.2.2.2.2.2.2) else (none))) else (some (([] : List (S30)), x416001, 5)))) else (some (x6, 0, 0))
def cardexref08_Tokens.f (k : Nat) (a0 : ByteArray) : Option ((List (S30)) × Int × Int) := if (a0.size : Int) > 20000 then (some (([] : List (S30)), 0, 4)) else ((cardexref01_Valid.f k a0).bind fun t414 => (if t414 = true then ((cardexref08_walk_is.f a0 0 (⟨#[60, 63, 120, 109, 108, 32, 118, 101, 114, 115, 105, 111, 110, 61, 39, 49, 46, 48, 39, 32, 101, 110, 99, 111, 100, 105, 110, 103, 61, 39, 85, 84, 70, 45, 56, 39, 63, 62]⟩ : ByteArray)).bind fun bt416 => (cardexref08_Tokens.l0 k a0 ([] : List (S30)) bt416.2.1 bt416.2.2)) else (some (([] : List (S30)), 0, 3))))
set_option maxHeartbeats 8000000 in
set_option maxRecDepth 100000 in
theorem cardexref08_Tokens.calls (k : Nat) (a0 : ByteArray) (r1 : List (S30)) (r2 : Int) (r3 : Int) (w : World) (h : cardexref08_Tokens.f k a0 = some (r1, r2, r3)) :
    Calls Tryz.prog 6 #[.string a0] w fun e w' => ∃ v0_ : Value, e = .returned (.tuple #[v0_, .int .i64 r2, .int .i64 r3]) ∧ Kd.S k30 30 w' w.heap.size (fun _ => True) v0_ r1 ∧ Below w.heap.size w w' := by
  have hu41 := Tryz.underlying41
  have hu30 := Tryz.underlying30
  have HB := Aside0.mk (Below.refl w.heap.size w)
  have H : (if (a0.size : Int) > 20000 then (some (([] : List (S30)), 0, 4)) else ((cardexref01_Valid.f k a0).bind fun t414 => (if t414 = true then ((cardexref08_walk_is.f a0 0 (⟨#[60, 63, 120, 109, 108, 32, 118, 101, 114, 115, 105, 111, 110, 61, 39, 49, 46, 48, 39, 32, 101, 110, 99, 111, 100, 105, 110, 103, 61, 39, 85, 84, 70, 45, 56, 39, 63, 62]⟩ : ByteArray)).bind fun bt416 => (cardexref08_Tokens.l0 k a0 ([] : List (S30)) bt416.2.1 bt416.2.2)) else (some (([] : List (S30)), 0, 3))))) = some (r1, r2, r3) := h
  clear h
  by_cases c2 : (a0.size : Int) > 20000
  · rw [if_pos c2] at H
    have c2b0 : decide (20000 < (a0.size : Int)) = true := decide_eq_true c2
    have c2b1 : decide (20000 < a0.size) = true := decide_eq_true (by omega)
    clear c2
    simp only [Option.some.injEq, Prod.mk.injEq] at H
    obtain ⟨rfl, rfl, rfl⟩ := H
    go_enter Tryz.func6, Tryz.ntmps6
    go_wp2
    go_ret3
    exact ⟨_, zz4, zz47, zz0⟩
  · rw [if_neg c2] at H
    have c2b0 : decide (20000 < (a0.size : Int)) = false := decide_eq_false c2
    have c2b1 : decide (20000 < a0.size) = false := decide_eq_false (by omega)
    clear c2
    replace H := Option.bind_eq_some_iff.mp H
    obtain ⟨t414, A30, H⟩ := H
    replace H : (if t414 = true then ((cardexref08_walk_is.f a0 0 (⟨#[60, 63, 120, 109, 108, 32, 118, 101, 114, 115, 105, 111, 110, 61, 39, 49, 46, 48, 39, 32, 101, 110, 99, 111, 100, 105, 110, 103, 61, 39, 85, 84, 70, 45, 56, 39, 63, 62]⟩ : ByteArray)).bind fun bt416 => (cardexref08_Tokens.l0 k a0 ([] : List (S30)) bt416.2.1 bt416.2.2)) else (some (([] : List (S30)), 0, 3))) = some (r1, r2, r3) := H
    have A3 := Aside0.mk A30
    clear A30
    by_cases c4 : t414 = true
    · subst c4
      have H1 : ((cardexref08_walk_is.f a0 0 (⟨#[60, 63, 120, 109, 108, 32, 118, 101, 114, 115, 105, 111, 110, 61, 39, 49, 46, 48, 39, 32, 101, 110, 99, 111, 100, 105, 110, 103, 61, 39, 85, 84, 70, 45, 56, 39, 63, 62]⟩ : ByteArray)).bind fun bt416 => (cardexref08_Tokens.l0 k a0 ([] : List (S30)) bt416.2.1 bt416.2.2)) = some (r1, r2, r3) := by rw [if_pos rfl] at H; exact H
      clear H
      have H := H1
      clear H1
      replace H := Option.bind_eq_some_iff.mp H
      obtain ⟨⟨t416, t417, t418⟩, A50, H⟩ := H
      replace H : (cardexref08_Tokens.l0 k a0 ([] : List (S30)) t417 t418) = some (r1, r2, r3) := H
      have A5 := Aside0.mk A50
      clear A50
      have H' := Aside0.mk H
      clear H
      go_enter Tryz.func6, Tryz.ntmps6
      go_wp2_with (first | ((with_reducible refine gate_callee (f := 13) rfl ?_); refine goesL_ (some 14) rfl rfl Tryz.func13 zz29 rfl #[.string a0] rfl zz1 ?_; (with_reducible refine (cardexref01_Valid.calls k a0 true _ A3.out).mono ?_); rintro e w' ⟨rfl, ⟨nd, rfl⟩⟩; refine ⟨_, rfl, ?_⟩) | ((with_reducible refine gate_dst (N := 18) rfl ?_); refine box_event ?hg (N := 18) ?hd (cs := #[.string a0, .int .i64 0]) (t := 41) ?hr ?_; (case hd => rfl); (case hg => rfl); (case hr => exact zz28); intro gb415 hg w6 hbox hb; have n0_ := Aside0.mk (below_step zz0 hb); have n1_ := Aside0.mk ((⟨hbox, (by rw [hg]; exact (below_size zz0) : w.heap.size ≤ gb415)⟩ : IsS41 w w6 gb415 a0 0)); have n2_ := Aside0.mk ((by rw [hg]; exact (below_size zz0) : w.heap.size ≤ gb415)); have n3_ := Aside0.mk ((by rw [hg]; exact (below_size zz0) : w.heap.size ≤ gb415)); clear HB; have HB := n0_; have HI415 := n1_; have GW415 := n2_; have GE415 := n3_; clear n0_ n1_ n2_ n3_; clear hb hbox hg) | ((with_reducible refine gate_callee (f := 14) rfl ?_); refine goesL_ (some 20) rfl rfl Tryz.func14 zz29 rfl #[.pointer (some ⟨gb415, 0, none⟩), .string (⟨#[60, 63, 120, 109, 108, 32, 118, 101, 114, 115, 105, 111, 110, 61, 39, 49, 46, 48, 39, 32, 101, 110, 99, 111, 100, 105, 110, 103, 61, 39, 85, 84, 70, 45, 56, 39, 63, 62]⟩ : ByteArray)] rfl zz1 ?_; (with_reducible refine (cardexref08_walk_is.calls gb415 a0 0 (⟨#[60, 63, 120, 109, 108, 32, 118, 101, 114, 115, 105, 111, 110, 61, 39, 49, 46, 48, 39, 32, 101, 110, 99, 111, 100, 105, 110, 103, 61, 39, 85, 84, 70, 45, 56, 39, 63, 62]⟩ : ByteArray) t416 t417 t418 w _ ?side1 ?side2 A5.out).mono ?_); (case side1 => exact zz50); (case side2 => exact zz23); rintro e w7 ⟨rfl, hi, hb, hk⟩; refine ⟨_, rfl, ?_⟩; have n0_ := Aside0.mk (hb); have n1_ := Aside0.mk (hi); clear HB; clear HI415; have HB := n0_; have HI415 := n1_; clear n0_ n1_; (try clear hb); (try clear hb2); (try clear hk); (try clear hi)))
      go_loopg [6] k (fun kq v6 w' => ∃ (x6_1 : List (S30)) (x416000_1 : ByteArray) (x416001_1 : Int), Aside0 (cardexref08_Tokens.l0 kq a0 x6_1 x416000_1 x416001_1 = some (r1, r2, r3)) ∧ Aside0 (kq ≤ k) ∧ Aside0 (Kd.S k30 30 w' w.heap.size (fun _ => True) v6 x6_1) ∧ Aside0 (IsS41 w w' gb415 x416000_1 x416001_1) ∧ Aside0 (Below w.heap.size w w'))
      case atStart => exact ⟨(([] : List (S30))), (t417), (t418), H', ⟨Nat.le_refl _⟩, ⟨zz47⟩, ⟨zz50⟩, ⟨zz23⟩⟩
      case round =>
        clear H'
        try clear c1
        try clear c2
        try clear c2b0
        try clear c2b1
        try clear p2
        try clear c4
        try clear c6
        obtain ⟨x6_1, x416000_1, x416001_1, HA, HK1, HO_6, HI415, HB⟩ := hrel
        cases gk with
        | zero => exact absurd HA.out (by simp [cardexref08_Tokens.l0])
        | succ k1 =>
          have H := HA.out
          clear HA
          simp only [cardexref08_Tokens.l0] at H
          by_cases c8 : x416001_1 < (a0.size : Int)
          · rw [if_pos c8] at H
            have c8b0 : decide (x416001_1 < (a0.size : Int)) = true := decide_eq_true c8
            clear c8
            replace H := Option.bind_eq_some_iff.mp H
            obtain ⟨⟨t419, t420, t421, t422, t423, t426, t427, t428, t429⟩, A90, H⟩ := H
            replace H : (if t427 = true then (if (t423.length : Int) > 10 then (some (([] : List (S30)), x416001_1, 4)) else (if x6_1.length < 1759218604441 then (cardexref08_Tokens.l0 k1 a0 (x6_1 ++ [(⟨t419, t420, t421, t422, t423, t426⟩ : S30)]) t428 t429) else (none))) else (some (([] : List (S30)), x416001_1, 5))) = some (r1, r2, r3) := H
            have A9 := Aside0.mk A90
            clear A90
            by_cases c10 : t427 = true
            · subst c10
              have H1 : (if (t423.length : Int) > 10 then (some (([] : List (S30)), x416001_1, 4)) else (if x6_1.length < 1759218604441 then (cardexref08_Tokens.l0 k1 a0 (x6_1 ++ [(⟨t419, t420, t421, t422, t423, t426⟩ : S30)]) t428 t429) else (none))) = some (r1, r2, r3) := by rw [if_pos rfl] at H; exact H
              clear H
              have H := H1
              clear H1
              by_cases c11 : (t423.length : Int) > 10
              · rw [if_pos c11] at H
                have c11b0 : decide (10 < (t423.length : Int)) = true := decide_eq_true c11
                have c11b1 : decide (10 < t423.length) = true := decide_eq_true (by omega)
                clear c11
                simp only [Option.some.injEq, Prod.mk.injEq] at H
                obtain ⟨rfl, rfl, rfl⟩ := H
                obtain ⟨HGz12, hgz12⟩ := HI415.out
                have hcz12_0 := cellS41_0 HGz12
                have hcz12_1 := cellS41_1 HGz12
                have hfz12_0 := blk_frozen HGz12 0
                have hfz12_1 := blk_frozen HGz12 1
                clear HGz12 hgz12
                go_wp2_with (first | ((with_reducible refine gate_callee (f := 15) rfl ?_); refine goesL_ (some 34) rfl rfl Tryz.func15 zz29 rfl #[.pointer (some ⟨gb415, 0, none⟩)] rfl zz1 ?_; (with_reducible refine (cardexref08_walk_token.calls k1 gb415 x416000_1 x416001_1 t419 t420 t421 t422 t423 t426 true t428 t429 w _ ?side1 ?side2 A9.out).mono ?_); (case side1 => exact zz50); (case side2 => exact zz23); rintro e w13 ⟨v424, rfl, ho0, hi, hb, hk⟩; refine ⟨_, rfl, ?_⟩; have n0_ := Aside0.mk (Kd.S_mono (Kd.S_told (Kd.S_oldK (IsS41.apartS (show IsS41 w _ gb415 x416000_1 x416001_1 from by repeat (first | (with_reducible first | exact HI415.out | apply IsS41.alloc | apply IsS41.drewN | apply IsS41.drew | apply IsS41.set_0 | apply IsS41.set_1) | exact HI415.out)) zz42 (by decide)) hk) (Kd.R_base ho0)) (fun _ h_ => h_.1)); have n1_ := Aside0.mk (Kd.R_lower ho0 (below_size zz23)); have n2_ := Aside0.mk (hb); have n3_ := Aside0.mk (hi); clear HO_6; clear HB; clear HI415; have HO_6 := n0_; have HO425 := n1_; have HB := n2_; have HI415 := n3_; clear n0_ n1_ n2_ n3_; (try clear hb); (try clear hb2); (try clear hk); (try clear hi); (try clear ho0)) | ((with_reducible refine gate_dst (N := 8) rfl ?_); refine box_event ?hg (N := 8) ?hd (cs := #[.int .i64 0, .int .i64 0, .string (⟨#[]⟩ : ByteArray), .string (⟨#[]⟩ : ByteArray), .slice none 0 0, .bool false]) (t := 30) ?hr ?_; (case hd => rfl); (case hg => rfl); (case hr => exact zz28); intro gb430 hg w14 hbox hb; have n0_ := Aside0.mk (Kd.S_below (Kd.S_elderB zz42 gb430 (Nat.le_of_eq hg.symm)) hb); have n1_ := Aside0.mk (Kd.R_below (by (with_reducible repeat (first | apply Kd.R_alloc | apply Kd.R_drewN | apply Kd.R_drew)); exact HO425.out) hb); have n2_ := Aside0.mk (IsS41.below zz50 hb); have n3_ := Aside0.mk (below_step zz23 hb); have n4_ := Aside0.mk (hbox); have n5_ := Aside0.mk ((by rw [hg]; exact (below_size zz23) : w.heap.size ≤ gb430)); have n6_ := Aside0.mk ((by rw [hg]; exact (below_size zz23) : w.heap.size ≤ gb430)); have n7_ := Aside0.mk ((by rw [hg]; exact Nat.ne_of_lt (IsS41.lt (show IsS41 w _ gb415 t428 t429 from by repeat (first | (with_reducible first | exact HI415.out | apply IsS41.alloc | apply IsS41.drewN | apply IsS41.drew | apply IsS41.set_0 | apply IsS41.set_1) | exact HI415.out))) : gb415 ≠ gb430)); have n8_ := Aside0.mk ((by rw [hg]; exact Nat.ne_of_gt (IsS41.lt (show IsS41 w _ gb415 t428 t429 from by repeat (first | (with_reducible first | exact HI415.out | apply IsS41.alloc | apply IsS41.drewN | apply IsS41.drew | apply IsS41.set_0 | apply IsS41.set_1) | exact HI415.out))) : gb430 ≠ gb415)); clear HO_6; clear HO425; clear HI415; clear HB; have HO_6 := n0_; have HO425 := n1_; have HI415 := n2_; have HB := n3_; have BK430 := n4_; have GW430 := n5_; have GE430 := n6_; have NB415_430 := n7_; have NB430_415 := n8_; clear n0_ n1_ n2_ n3_ n4_ n5_ n6_ n7_ n8_; clear hb hbox hg; have hnb15 := NB430_415.out; have hnc15 := NB415_430.out; have hcz16_0 : w14.cell? ⟨gb430, 0, none⟩ = some (.int .i64 0) := (blk_cell BK430.out 0).trans rfl; have hcz16_1 : w14.cell? ⟨gb430, 1, none⟩ = some (.int .i64 0) := (blk_cell BK430.out 1).trans rfl; have hcz16_2 : w14.cell? ⟨gb430, 2, none⟩ = some (.string (⟨#[]⟩ : ByteArray)) := (blk_cell BK430.out 2).trans rfl; have hcz16_3 : w14.cell? ⟨gb430, 3, none⟩ = some (.string (⟨#[]⟩ : ByteArray)) := (blk_cell BK430.out 3).trans rfl; have hcz16_4 : w14.cell? ⟨gb430, 4, none⟩ = some (.slice none 0 0) := (blk_cell BK430.out 4).trans rfl; have hcz16_5 : w14.cell? ⟨gb430, 5, none⟩ = some (.bool false) := (blk_cell BK430.out 5).trans rfl; have hfz16_0 := blk_frozen BK430.out 0; have hfz16_1 := blk_frozen BK430.out 1; have hfz16_2 := blk_frozen BK430.out 2; have hfz16_3 := blk_frozen BK430.out 3; have hfz16_4 := blk_frozen BK430.out 4; have hfz16_5 := blk_frozen BK430.out 5; obtain ⟨Ao17, co17, eo17⟩ := Kd.R_slice HO425.out; subst eo17))
                go_ret3
                exact ⟨_, zz4, zz47, zz56⟩
              · rw [if_neg c11] at H
                have c11b0 : decide (10 < (t423.length : Int)) = false := decide_eq_false c11
                have c11b1 : decide (10 < t423.length) = false := decide_eq_false (by omega)
                clear c11
                by_cases c18 : x6_1.length < 1759218604441
                · rw [if_pos c18] at H
                  have LMc18 := Aside0.mk c18
                  clear c18
                  obtain ⟨y431, hy431⟩ : ∃ y_ : List (S30), y_ = (x6_1 ++ [(⟨t419, t420, t421, t422, t423, t426⟩ : S30)]) := ⟨_, rfl⟩
                  replace H : (cardexref08_Tokens.l0 k1 a0 y431 t428 t429) = some (r1, r2, r3) := by first | (rw [hy431]; with_reducible exact H) | (have H2_ := (Option.bind_some _ _).symm.trans H; rw [hy431]; with_reducible exact H2_) | (have H2_ := (Option.bind_some _ _).symm.trans H; with_reducible exact H2_) | with_reducible exact H | (rw [hy431]; exact H) | exact H
                  have Ny431 := Aside0.mk hy431
                  clear hy431
                  have H' := Aside0.mk H
                  clear H
                  obtain ⟨HGz19, hgz19⟩ := HI415.out
                  have hcz19_0 := cellS41_0 HGz19
                  have hcz19_1 := cellS41_1 HGz19
                  have hfz19_0 := blk_frozen HGz19 0
                  have hfz19_1 := blk_frozen HGz19 1
                  clear HGz19 hgz19
                  go_wp2_with (first | ((with_reducible refine gate_callee (f := 15) rfl ?_); refine goesL_ (some 34) rfl rfl Tryz.func15 zz29 rfl #[.pointer (some ⟨gb415, 0, none⟩)] rfl zz1 ?_; (with_reducible refine (cardexref08_walk_token.calls k1 gb415 x416000_1 x416001_1 t419 t420 t421 t422 t423 t426 true t428 t429 w _ ?side1 ?side2 A9.out).mono ?_); (case side1 => exact zz50); (case side2 => exact zz23); rintro e w20 ⟨v424, rfl, ho0, hi, hb, hk⟩; refine ⟨_, rfl, ?_⟩; have n0_ := Aside0.mk (Kd.S_mono (Kd.S_told (Kd.S_oldK (IsS41.apartS (show IsS41 w _ gb415 x416000_1 x416001_1 from by repeat (first | (with_reducible first | exact HI415.out | apply IsS41.alloc | apply IsS41.drewN | apply IsS41.drew | apply IsS41.set_0 | apply IsS41.set_1) | exact HI415.out)) zz42 (by decide)) hk) (Kd.R_base ho0)) (fun _ h_ => h_.1)); have n1_ := Aside0.mk (Kd.R_lower ho0 (below_size zz23)); have n2_ := Aside0.mk (hb); have n3_ := Aside0.mk (hi); clear HO_6; clear HB; clear HI415; have HO_6 := n0_; have HO425 := n1_; have HB := n2_; have HI415 := n3_; clear n0_ n1_ n2_ n3_; (try clear hb); (try clear hb2); (try clear hk); (try clear hi); (try clear ho0)) | ((with_reducible refine gate_dst (N := 8) rfl ?_); refine box_event ?hg (N := 8) ?hd (cs := #[.int .i64 0, .int .i64 0, .string (⟨#[]⟩ : ByteArray), .string (⟨#[]⟩ : ByteArray), .slice none 0 0, .bool false]) (t := 30) ?hr ?_; (case hd => rfl); (case hg => rfl); (case hr => exact zz28); intro gb430 hg w21 hbox hb; have n0_ := Aside0.mk (Kd.S_below (Kd.S_elderB zz42 gb430 (Nat.le_of_eq hg.symm)) hb); have n1_ := Aside0.mk (Kd.R_below (by (with_reducible repeat (first | apply Kd.R_alloc | apply Kd.R_drewN | apply Kd.R_drew)); exact HO425.out) hb); have n2_ := Aside0.mk (IsS41.below zz50 hb); have n3_ := Aside0.mk (below_step zz23 hb); have n4_ := Aside0.mk (hbox); have n5_ := Aside0.mk ((by rw [hg]; exact (below_size zz23) : w.heap.size ≤ gb430)); have n6_ := Aside0.mk ((by rw [hg]; exact (below_size zz23) : w.heap.size ≤ gb430)); have n7_ := Aside0.mk ((by rw [hg]; exact Nat.ne_of_lt (IsS41.lt (show IsS41 w _ gb415 t428 t429 from by repeat (first | (with_reducible first | exact HI415.out | apply IsS41.alloc | apply IsS41.drewN | apply IsS41.drew | apply IsS41.set_0 | apply IsS41.set_1) | exact HI415.out))) : gb415 ≠ gb430)); have n8_ := Aside0.mk ((by rw [hg]; exact Nat.ne_of_gt (IsS41.lt (show IsS41 w _ gb415 t428 t429 from by repeat (first | (with_reducible first | exact HI415.out | apply IsS41.alloc | apply IsS41.drewN | apply IsS41.drew | apply IsS41.set_0 | apply IsS41.set_1) | exact HI415.out))) : gb430 ≠ gb415)); clear HO_6; clear HO425; clear HI415; clear HB; have HO_6 := n0_; have HO425 := n1_; have HI415 := n2_; have HB := n3_; have BK430 := n4_; have GW430 := n5_; have GE430 := n6_; have NB415_430 := n7_; have NB430_415 := n8_; clear n0_ n1_ n2_ n3_ n4_ n5_ n6_ n7_ n8_; clear hb hbox hg; have hnb22 := NB430_415.out; have hnc22 := NB415_430.out; have hcz23_0 : w21.cell? ⟨gb430, 0, none⟩ = some (.int .i64 0) := (blk_cell BK430.out 0).trans rfl; have hcz23_1 : w21.cell? ⟨gb430, 1, none⟩ = some (.int .i64 0) := (blk_cell BK430.out 1).trans rfl; have hcz23_2 : w21.cell? ⟨gb430, 2, none⟩ = some (.string (⟨#[]⟩ : ByteArray)) := (blk_cell BK430.out 2).trans rfl; have hcz23_3 : w21.cell? ⟨gb430, 3, none⟩ = some (.string (⟨#[]⟩ : ByteArray)) := (blk_cell BK430.out 3).trans rfl; have hcz23_4 : w21.cell? ⟨gb430, 4, none⟩ = some (.slice none 0 0) := (blk_cell BK430.out 4).trans rfl; have hcz23_5 : w21.cell? ⟨gb430, 5, none⟩ = some (.bool false) := (blk_cell BK430.out 5).trans rfl; have hfz23_0 := blk_frozen BK430.out 0; have hfz23_1 := blk_frozen BK430.out 1; have hfz23_2 := blk_frozen BK430.out 2; have hfz23_3 := blk_frozen BK430.out 3; have hfz23_4 := blk_frozen BK430.out 4; have hfz23_5 := blk_frozen BK430.out 5; obtain ⟨Ao24, co24, eo24⟩ := Kd.R_slice HO425.out; subst eo24) | ((with_reducible refine gate_store (t := 30) (p := 8) rfl ?_); refine store_event (t := 30) (p := 8) (v := ?vo_w25) (w1 := ((((((w21.setCell ⟨gb430, 0, none⟩ (.int .i64 t419)).setCell ⟨gb430, 1, none⟩ (.int .i64 t420)).setCell ⟨gb430, 2, none⟩ (.string t421)).setCell ⟨gb430, 3, none⟩ (.string t422)).setCell ⟨gb430, 4, none⟩ (.slice Ao24 t423.length co24)).setCell ⟨gb430, 5, none⟩ (.bool t426))) ?hg ?ho ?hn ?hr ?_; (case ho => rfl); (case hg => rfl); (case hn => rfl); (case hr => exact zz28); intro w25 hw; have n0_ : Aside0 (Kd.S k30 30 w25 w.heap.size (fun k_ => some k_ ≠ (.slice Ao24 t423.length co24 : Value).ownBlock ∧ k_ ≠ gb430) u6 x6_1) := ⟨(by rw [hw]; exact (by (with_reducible repeat (first | apply Kd.S_alloc | apply Kd.S_drewN | apply Kd.S_drew)); exact Kd.S_mono (Kd.S_far (p := ⟨gb430, 5, none⟩) (Kd.S_far (p := ⟨gb430, 4, none⟩) (Kd.S_far (p := ⟨gb430, 3, none⟩) (Kd.S_far (p := ⟨gb430, 2, none⟩) (Kd.S_far (p := ⟨gb430, 1, none⟩) (Kd.S_far (p := ⟨gb430, 0, none⟩) (Kd.S_mono HO_6.out (fun k_ hk => (⟨hk, hk.2⟩ : _ ∧ k_ ≠ gb430))) (fun _ hk => hk.2) (.int .i64 t419)) (fun _ hk => hk.2) (.int .i64 t420)) (fun _ hk => hk.2) (.string t421)) (fun _ hk => hk.2) (.string t422)) (fun _ hk => hk.2) (.slice Ao24 t423.length co24)) (fun _ hk => hk.2) (.bool t426)) (fun _ hk => ⟨hk.1.1.2, hk.1.2⟩)))⟩; have n1_ : Aside0 (Kd.R k45 45 w25 w.heap.size (fun _ => True) (.slice Ao24 t423.length co24) t423) := ⟨(by rw [hw]; exact (by (with_reducible repeat (first | apply Kd.R_alloc | apply Kd.R_drewN | apply Kd.R_drew)); exact Kd.R_mono (Kd.R_far (p := ⟨gb430, 5, none⟩) (Kd.R_far (p := ⟨gb430, 4, none⟩) (Kd.R_far (p := ⟨gb430, 3, none⟩) (Kd.R_far (p := ⟨gb430, 2, none⟩) (Kd.R_far (p := ⟨gb430, 1, none⟩) (Kd.R_far (p := ⟨gb430, 0, none⟩) (Kd.R_types HO425.out BK430.out (by decide)) (fun _ hk => hk.2) (.int .i64 t419)) (fun _ hk => hk.2) (.int .i64 t420)) (fun _ hk => hk.2) (.string t421)) (fun _ hk => hk.2) (.string t422)) (fun _ hk => hk.2) (.slice Ao24 t423.length co24)) (fun _ hk => hk.2) (.bool t426)) (fun _ hk => trivial)))⟩; have n2_ : Aside0 (w25.heap[gb430]? = some (.cells #[.int .i64 t419, .int .i64 t420, .string t421, .string t422, .slice Ao24 t423.length co24, .bool t426] 30 (0, 0))) := ⟨(by rw [hw]; exact (by (with_reducible repeat (first | refine blk_drewN ?_ _ | refine blk_drew ?_ | refine blk_alloc ?_ _)); refine blk_put (cs := #[.int .i64 t419, .int .i64 t420, .string t421, .string t422, .slice Ao24 t423.length co24, .bool false]) ?_ 5 _ rfl; (with_reducible repeat (first | refine blk_drewN ?_ _ | refine blk_drew ?_ | refine blk_alloc ?_ _)); refine blk_put (cs := #[.int .i64 t419, .int .i64 t420, .string t421, .string t422, .slice none 0 0, .bool false]) ?_ 4 _ rfl; (with_reducible repeat (first | refine blk_drewN ?_ _ | refine blk_drew ?_ | refine blk_alloc ?_ _)); refine blk_put (cs := #[.int .i64 t419, .int .i64 t420, .string t421, .string (⟨#[]⟩ : ByteArray), .slice none 0 0, .bool false]) ?_ 3 _ rfl; (with_reducible repeat (first | refine blk_drewN ?_ _ | refine blk_drew ?_ | refine blk_alloc ?_ _)); refine blk_put (cs := #[.int .i64 t419, .int .i64 t420, .string (⟨#[]⟩ : ByteArray), .string (⟨#[]⟩ : ByteArray), .slice none 0 0, .bool false]) ?_ 2 _ rfl; (with_reducible repeat (first | refine blk_drewN ?_ _ | refine blk_drew ?_ | refine blk_alloc ?_ _)); refine blk_put (cs := #[.int .i64 t419, .int .i64 0, .string (⟨#[]⟩ : ByteArray), .string (⟨#[]⟩ : ByteArray), .slice none 0 0, .bool false]) ?_ 1 _ rfl; (with_reducible repeat (first | refine blk_drewN ?_ _ | refine blk_drew ?_ | refine blk_alloc ?_ _)); refine blk_put (cs := #[.int .i64 0, .int .i64 0, .string (⟨#[]⟩ : ByteArray), .string (⟨#[]⟩ : ByteArray), .slice none 0 0, .bool false]) ?_ 0 _ rfl; (with_reducible repeat (first | refine blk_drewN ?_ _ | refine blk_drew ?_ | refine blk_alloc ?_ _)); exact BK430.out))⟩; have n3_ : Aside0 (IsS41 w w25 gb415 t428 t429) := ⟨(by rw [hw]; exact zz82)⟩; have n4_ : Aside0 (Below w.heap.size w w25) := ⟨(by rw [hw]; exact zz56)⟩; clear hw; clear HO_6; clear HO425; clear BK430; clear HI415; clear HB; have HO_6 := n0_; have HO425 := n1_; have BK430 := n2_; have HI415 := n3_; have HB := n4_; clear n0_ n1_ n2_ n3_ n4_; have hcz26_0 : w25.cell? ⟨gb430, 0, none⟩ = some (.int .i64 t419) := (blk_cell BK430.out 0).trans rfl; have hcz26_1 : w25.cell? ⟨gb430, 1, none⟩ = some (.int .i64 t420) := (blk_cell BK430.out 1).trans rfl; have hcz26_2 : w25.cell? ⟨gb430, 2, none⟩ = some (.string t421) := (blk_cell BK430.out 2).trans rfl; have hcz26_3 : w25.cell? ⟨gb430, 3, none⟩ = some (.string t422) := (blk_cell BK430.out 3).trans rfl; have hcz26_4 : w25.cell? ⟨gb430, 4, none⟩ = some (.slice Ao24 t423.length co24) := (blk_cell BK430.out 4).trans rfl; have hcz26_5 : w25.cell? ⟨gb430, 5, none⟩ = some (.bool t426) := (blk_cell BK430.out 5).trans rfl; have hfz26_0 := blk_frozen BK430.out 0; have hfz26_1 := blk_frozen BK430.out 1; have hfz26_2 := blk_frozen BK430.out 2; have hfz26_3 := blk_frozen BK430.out 3; have hfz26_4 := blk_frozen BK430.out 4; have hfz26_5 := blk_frozen BK430.out 5) | ((with_reducible refine gate_builtin (b := .append) (xs := #[.tmp 45, .tmp 47]) rfl ?_); at_builtin; refine Kd.S_append k30 (w0 := w) w.heap.size rfl (.tmp 45) (.tmp 47) 23 30 (.agg #[(.int .i64 0), (.int .i64 0), (.string ⟨#[]⟩), (.string ⟨#[]⟩), (.slice none 0 0), (.bool false)]) 80 rfl Tryz.underlying23 info30 rfl (by decide) (by omega) u6 x6_1 (⟨t419, t420, t421, t422, t423, t426⟩ : S30) [.int .i64 t419, .int .i64 t420, .string t421, .string t422, .slice Ao24 t423.length co24, .bool t426] (fun k_ => k_ ≠ gb430) (fun k_ => some k_ = (.slice Ao24 t423.length co24 : Value).ownBlock) rfl rfl ?aP (fun k_ hk_ => ((Kd.R_mono (ok' := fun k_ => ((fun k_ => k_ ≠ gb430)) k_ ∧ some k_ ≠ (u6 : Value).ownBlock) (Kd.R_types (Kd.R_apart' (HO425.out) (Kd.S_typed HO_6.out) (by decide)) BK430.out (by decide)) (fun k_ hk => ⟨hk.2, hk.1.2⟩))).1 k_ hk_.symm) ?aF ?aO ?aB ?aS ?aL ?_; (case aP => exact k30_mkM _ _ _ (⟨t419, t420, t421, t422, t423, t426⟩ : S30) (Kd.R_mono (Kd.R_tight rfl (Kd.R_mono (ok' := fun k_ => ((fun k_ => k_ ≠ gb430)) k_ ∧ some k_ ≠ (u6 : Value).ownBlock) (Kd.R_types (Kd.R_apart' (HO425.out) (Kd.S_typed HO_6.out) (by decide)) BK430.out (by decide)) (fun k_ hk => ⟨hk.2, hk.1.2⟩))) (fun _ h_ => h_))); (case aB => exact zz56); (case aF => exact (fun k_ hk => Kd.freshB (g := gb430) (o := .cells #[.int .i64 t419, .int .i64 t420, .string t421, .string t422, .slice Ao24 t423.length co24, .bool t426] 30 (0, 0)) (by (with_reducible repeat (first | refine blk_drewN ?_ _ | refine blk_drew ?_ | refine blk_alloc ?_ _)); exact BK430.out) k_ hk)); (case aO => exact (by (with_reducible repeat (first | apply Kd.S_alloc | apply Kd.S_drewN | apply Kd.S_drew)); exact Kd.S_mono HO_6.out (fun k_ hk => ⟨hk.2, fun e_ => hk.1 e_⟩))); (case aS => exact (below_size zz56)); (case aL => have := LMc18.out; omega); intro v432 w27 ho hb hg hat; rw [← Ny431.out] at ho; have n0_ := Aside0.mk (IsS41.grown zz82 hg (IsS41.own_neS HI415.out HO_6.out (by decide))); have n1_ := Aside0.mk (blk_grown (g := gb430) (o := .cells #[.int .i64 t419, .int .i64 t420, .string t421, .string t422, .slice Ao24 t423.length co24, .bool t426] 30 (0, 0)) (by (with_reducible repeat (first | refine blk_drewN ?_ _ | refine blk_drew ?_ | refine blk_alloc ?_ _)); exact BK430.out) hg (Kd.S_away HO_6.out (fun _ hk => hk.2))); have n2_ := Aside0.mk (hb); have n3_ := Aside0.mk (ho); clear HI415; clear BK430; clear HB; clear HO_6; clear HO425; have HI415 := n0_; have BK430 := n1_; have HB := n2_; have HO433 := n3_; clear n0_ n1_ n2_ n3_; clear ho hb hg hat))
                  go_roundg k1
                  case measure => have := HK1.out; omega
                  case rel => exact ⟨(y431), (t428), (t429), H', ⟨by have := HK1.out; omega⟩, ⟨by (with_reducible repeat (first | apply Kd.S_alloc | apply Kd.S_drewN | apply Kd.S_drew)); exact Kd.S_mono HO433.out (fun _ hk => trivial)⟩, ⟨zz82⟩, ⟨zz56⟩⟩
                · rw [if_neg c18] at H
                  exact absurd H (by simp)
            · replace c10 := Bool.eq_false_iff.mpr c10
              subst c10
              have H1 : (some (([] : List (S30)), x416001_1, 5)) = some (r1, r2, r3) := by rw [if_neg (show ¬ (false = true) by decide)] at H; exact H
              clear H
              have H := H1
              clear H1
              simp only [Option.some.injEq, Prod.mk.injEq] at H
              obtain ⟨rfl, rfl, rfl⟩ := H
              obtain ⟨HGz28, hgz28⟩ := HI415.out
              have hcz28_0 := cellS41_0 HGz28
              have hcz28_1 := cellS41_1 HGz28
              have hfz28_0 := blk_frozen HGz28 0
              have hfz28_1 := blk_frozen HGz28 1
              clear HGz28 hgz28
              go_wp2_with (first | ((with_reducible refine gate_callee (f := 15) rfl ?_); refine goesL_ (some 34) rfl rfl Tryz.func15 zz29 rfl #[.pointer (some ⟨gb415, 0, none⟩)] rfl zz1 ?_; (with_reducible refine (cardexref08_walk_token.calls k1 gb415 x416000_1 x416001_1 t419 t420 t421 t422 t423 t426 false t428 t429 w _ ?side1 ?side2 A9.out).mono ?_); (case side1 => exact zz50); (case side2 => exact zz23); rintro e w29 ⟨v424, rfl, ho0, hi, hb, hk⟩; refine ⟨_, rfl, ?_⟩; have n0_ := Aside0.mk (Kd.S_mono (Kd.S_told (Kd.S_oldK (IsS41.apartS (show IsS41 w _ gb415 x416000_1 x416001_1 from by repeat (first | (with_reducible first | exact HI415.out | apply IsS41.alloc | apply IsS41.drewN | apply IsS41.drew | apply IsS41.set_0 | apply IsS41.set_1) | exact HI415.out)) zz42 (by decide)) hk) (Kd.R_base ho0)) (fun _ h_ => h_.1)); have n1_ := Aside0.mk (Kd.R_lower ho0 (below_size zz23)); have n2_ := Aside0.mk (hb); have n3_ := Aside0.mk (hi); clear HO_6; clear HB; clear HI415; have HO_6 := n0_; have HO425 := n1_; have HB := n2_; have HI415 := n3_; clear n0_ n1_ n2_ n3_; (try clear hb); (try clear hb2); (try clear hk); (try clear hi); (try clear ho0)) | ((with_reducible refine gate_dst (N := 8) rfl ?_); refine box_event ?hg (N := 8) ?hd (cs := #[.int .i64 0, .int .i64 0, .string (⟨#[]⟩ : ByteArray), .string (⟨#[]⟩ : ByteArray), .slice none 0 0, .bool false]) (t := 30) ?hr ?_; (case hd => rfl); (case hg => rfl); (case hr => exact zz28); intro gb430 hg w30 hbox hb; have n0_ := Aside0.mk (Kd.S_below (Kd.S_elderB zz42 gb430 (Nat.le_of_eq hg.symm)) hb); have n1_ := Aside0.mk (Kd.R_below (by (with_reducible repeat (first | apply Kd.R_alloc | apply Kd.R_drewN | apply Kd.R_drew)); exact HO425.out) hb); have n2_ := Aside0.mk (IsS41.below zz50 hb); have n3_ := Aside0.mk (below_step zz23 hb); have n4_ := Aside0.mk (hbox); have n5_ := Aside0.mk ((by rw [hg]; exact (below_size zz23) : w.heap.size ≤ gb430)); have n6_ := Aside0.mk ((by rw [hg]; exact (below_size zz23) : w.heap.size ≤ gb430)); have n7_ := Aside0.mk ((by rw [hg]; exact Nat.ne_of_lt (IsS41.lt (show IsS41 w _ gb415 t428 t429 from by repeat (first | (with_reducible first | exact HI415.out | apply IsS41.alloc | apply IsS41.drewN | apply IsS41.drew | apply IsS41.set_0 | apply IsS41.set_1) | exact HI415.out))) : gb415 ≠ gb430)); have n8_ := Aside0.mk ((by rw [hg]; exact Nat.ne_of_gt (IsS41.lt (show IsS41 w _ gb415 t428 t429 from by repeat (first | (with_reducible first | exact HI415.out | apply IsS41.alloc | apply IsS41.drewN | apply IsS41.drew | apply IsS41.set_0 | apply IsS41.set_1) | exact HI415.out))) : gb430 ≠ gb415)); clear HO_6; clear HO425; clear HI415; clear HB; have HO_6 := n0_; have HO425 := n1_; have HI415 := n2_; have HB := n3_; have BK430 := n4_; have GW430 := n5_; have GE430 := n6_; have NB415_430 := n7_; have NB430_415 := n8_; clear n0_ n1_ n2_ n3_ n4_ n5_ n6_ n7_ n8_; clear hb hbox hg; have hnb31 := NB430_415.out; have hnc31 := NB415_430.out; have hcz32_0 : w30.cell? ⟨gb430, 0, none⟩ = some (.int .i64 0) := (blk_cell BK430.out 0).trans rfl; have hcz32_1 : w30.cell? ⟨gb430, 1, none⟩ = some (.int .i64 0) := (blk_cell BK430.out 1).trans rfl; have hcz32_2 : w30.cell? ⟨gb430, 2, none⟩ = some (.string (⟨#[]⟩ : ByteArray)) := (blk_cell BK430.out 2).trans rfl; have hcz32_3 : w30.cell? ⟨gb430, 3, none⟩ = some (.string (⟨#[]⟩ : ByteArray)) := (blk_cell BK430.out 3).trans rfl; have hcz32_4 : w30.cell? ⟨gb430, 4, none⟩ = some (.slice none 0 0) := (blk_cell BK430.out 4).trans rfl; have hcz32_5 : w30.cell? ⟨gb430, 5, none⟩ = some (.bool false) := (blk_cell BK430.out 5).trans rfl; have hfz32_0 := blk_frozen BK430.out 0; have hfz32_1 := blk_frozen BK430.out 1; have hfz32_2 := blk_frozen BK430.out 2; have hfz32_3 := blk_frozen BK430.out 3; have hfz32_4 := blk_frozen BK430.out 4; have hfz32_5 := blk_frozen BK430.out 5; obtain ⟨Ao33, co33, eo33⟩ := Kd.R_slice HO425.out; subst eo33))
              go_ret3
              exact ⟨_, zz4, zz47, zz56⟩
          · rw [if_neg c8] at H
            have c8b0 : decide (x416001_1 < (a0.size : Int)) = false := decide_eq_false c8
            clear c8
            simp only [Option.some.injEq, Prod.mk.injEq] at H
            obtain ⟨rfl, rfl, rfl⟩ := H
            obtain ⟨HGz34, hgz34⟩ := HI415.out
            have hcz34_0 := cellS41_0 HGz34
            have hcz34_1 := cellS41_1 HGz34
            have hfz34_0 := blk_frozen HGz34 0
            have hfz34_1 := blk_frozen HGz34 1
            clear HGz34 hgz34
            go_wp2
            go_ret3
            exact ⟨_, zz4, zz42, zz23⟩
    · replace c4 := Bool.eq_false_iff.mpr c4
      subst c4
      have H1 : (some (([] : List (S30)), 0, 3)) = some (r1, r2, r3) := by rw [if_neg (show ¬ (false = true) by decide)] at H; exact H
      clear H
      have H := H1
      clear H1
      simp only [Option.some.injEq, Prod.mk.injEq] at H
      obtain ⟨rfl, rfl, rfl⟩ := H
      go_enter Tryz.func6, Tryz.ntmps6
      go_wp2_with (first | ((with_reducible refine gate_callee (f := 13) rfl ?_); refine goesL_ (some 14) rfl rfl Tryz.func13 zz29 rfl #[.string a0] rfl zz1 ?_; (with_reducible refine (cardexref01_Valid.calls k a0 false _ A3.out).mono ?_); rintro e w' ⟨rfl, ⟨nd, rfl⟩⟩; refine ⟨_, rfl, ?_⟩))
      go_ret3
      exact ⟨_, zz4, zz47, zz0⟩
def api_Attr_1.f (a0_0 : ByteArray) (a0_1 : ByteArray) (a1_0 : ByteArray) (a1_1 : ByteArray) : Option (Bool) := some (a0_0.toList == a1_0.toList && (a0_1.toList == a1_1.toList))
set_option maxHeartbeats 8000000 in
set_option maxRecDepth 100000 in
theorem api_Attr_1.calls (a0_0 : ByteArray) (a0_1 : ByteArray) (a1_0 : ByteArray) (a1_1 : ByteArray) (r : Bool) (w : World) (h : api_Attr_1.f a0_0 a0_1 a1_0 a1_1 = some r) :
    Calls Tryz.prog 30 #[.agg #[.string a0_0, .string a0_1], .agg #[.string a1_0, .string a1_1]] w fun e w' => e = .returned (.bool r) ∧ Below w.heap.size w w' := by
  have hu45 := Tryz.underlying45
  have HB := Aside0.mk (Below.refl w.heap.size w)
  have H : (some (a0_0.toList == a1_0.toList && (a0_1.toList == a1_1.toList))) = some r := h
  clear h
  obtain rfl := Option.some.inj H
  go_enter Tryz.func30, Tryz.ntmps30
  go_wp2_with (first | ((with_reducible refine gate_dst (N := 2) rfl ?_); refine box_event ?hg (N := 2) ?hd (cs := #[.string a0_0, .string a0_1]) (t := 45) ?hr ?_; (case hd => rfl); (case hg => rfl); (case hr => exact zz28); intro gb434 hg w3 hbox hb; have n0_ := Aside0.mk (below_step zz0 hb); have n1_ := Aside0.mk (hbox); have n2_ := Aside0.mk ((by rw [hg]; exact (below_size zz0) : w.heap.size ≤ gb434)); have n3_ := Aside0.mk ((by rw [hg]; exact (below_size zz0) : w.heap.size ≤ gb434)); clear HB; have HB := n0_; have BK434 := n1_; have GW434 := n2_; have GE434 := n3_; clear n0_ n1_ n2_ n3_; clear hb hbox hg) | ((with_reducible refine gate_dst (N := 3) rfl ?_); refine box_event ?hg (N := 3) ?hd (cs := #[.string a1_0, .string a1_1]) (t := 45) ?hr ?_; (case hd => rfl); (case hg => rfl); (case hr => exact zz28); intro gb435 hg w4 hbox hb; have n0_ := Aside0.mk (blk_below (g := gb434) (o := .cells #[.string a0_0, .string a0_1] 45 (0, 0)) (by (with_reducible repeat (first | refine blk_drewN ?_ _ | refine blk_drew ?_ | refine blk_alloc ?_ _)); exact BK434.out) hb); have n1_ := Aside0.mk (below_step zz84 hb); have n2_ := Aside0.mk (hbox); have n3_ := Aside0.mk ((by rw [hg]; exact (below_size zz84) : w.heap.size ≤ gb435)); have n4_ := Aside0.mk ((by rw [hg]; exact (below_size zz84) : w.heap.size ≤ gb435)); have n5_ := Aside0.mk ((by rw [hg]; exact Nat.ne_of_lt (blk_lt (g := gb434) (o := .cells #[.string a0_0, .string a0_1] 45 (0, 0)) (by (with_reducible repeat (first | refine blk_drewN ?_ _ | refine blk_drew ?_ | refine blk_alloc ?_ _)); exact BK434.out)) : gb434 ≠ gb435)); have n6_ := Aside0.mk ((by rw [hg]; exact Nat.ne_of_gt (blk_lt (g := gb434) (o := .cells #[.string a0_0, .string a0_1] 45 (0, 0)) (by (with_reducible repeat (first | refine blk_drewN ?_ _ | refine blk_drew ?_ | refine blk_alloc ?_ _)); exact BK434.out)) : gb435 ≠ gb434)); clear BK434; clear HB; have BK434 := n0_; have HB := n1_; have BK435 := n2_; have GW435 := n3_; have GE435 := n4_; have NB434_435 := n5_; have NB435_434 := n6_; clear n0_ n1_ n2_ n3_ n4_ n5_ n6_; clear hb hbox hg; have hnb5 := NB434_435.out; have hnc5 := NB435_434.out; have hcz6_0 : w4.cell? ⟨gb434, 0, none⟩ = some (.string a0_0) := (blk_cell BK434.out 0).trans rfl; have hcz6_1 : w4.cell? ⟨gb434, 1, none⟩ = some (.string a0_1) := (blk_cell BK434.out 1).trans rfl; have hfz6_0 := blk_frozen BK434.out 0; have hfz6_1 := blk_frozen BK434.out 1; have hcz7_0 : w4.cell? ⟨gb435, 0, none⟩ = some (.string a1_0) := (blk_cell BK435.out 0).trans rfl; have hcz7_1 : w4.cell? ⟨gb435, 1, none⟩ = some (.string a1_1) := (blk_cell BK435.out 1).trans rfl; have hfz7_0 := blk_frozen BK435.out 0; have hfz7_1 := blk_frozen BK435.out 1))
  go_ret
  exact ⟨zz4, by repeat (first | (with_reducible first | exact HB.out | apply below_alloc | apply pw_below_drewN | apply below_drew1 | refine below_set ?_ GE434.out | refine below_set ?_ GE435.out) | exact HB.out)⟩
def cardexhelp_Same_api_Attr_cardexhelp_Plain_Attr_1.l0 : Nat → List (S45) → List (S45) → Int → Option (Bool)
  | 0, _, _, _ => none
  | k + 1, x0, x1, x7 => if x7 < (x0.length : Int) then (if 0 ≤ x7 then (if x7 < (x1.length : Int) then ((api_Attr_1.f ((rd_T45 x0 x7).f0) ((rd_T45 x0 x7).f1) ((rd_T45 x1 x7).f0) ((rd_T45 x1 x7).f1)).bind fun t438 => (if t438 = true then (cardexhelp_Same_api_Attr_cardexhelp_Plain_Attr_1.l0 k x0 x1 (wrap64 (x7 + 1))) else (some false))) else (none)) else (none)) else (some true)
def cardexhelp_Same_api_Attr_cardexhelp_Plain_Attr_1.f (k : Nat) (l0 : List (S45)) (l1 : List (S45))  : Option (Bool) := if (l0.length : Int) = (l1.length : Int) then (cardexhelp_Same_api_Attr_cardexhelp_Plain_Attr_1.l0 k l0 l1 0) else (some false)
def cardexhelp_Same_api_Attr_cardexhelp_Plain_Attr_1.T6 : Bool × List (List Nat × List Nat) := (true, [([], []), ([], []), ([], []), ([1, 2], [1, 2]), ([3], [3]), ([], []), ([], []), ([5, 6], [5, 6]), ([7], [7]), ([0, 4, 8], [0, 4, 8]), ([9], [9])])
def cardexhelp_Same_api_Attr_cardexhelp_Plain_Attr_1.B6 : List Nat := [0, 0, 0, 6, 14, 0, 0, 96, 224, 511, 1023]
theorem cardexhelp_Same_api_Attr_cardexhelp_Plain_Attr_1.tab6 : rtab .any (opsOf Tryz.f29 6) = cardexhelp_Same_api_Attr_cardexhelp_Plain_Attr_1.T6 := by kernel_rfl
theorem cardexhelp_Same_api_Attr_cardexhelp_Plain_Attr_1.bits6 : waitsOk cardexhelp_Same_api_Attr_cardexhelp_Plain_Attr_1.T6.2 cardexhelp_Same_api_Attr_cardexhelp_Plain_Attr_1.B6 = true := by kernel_rfl
set_option maxHeartbeats 8000000 in
set_option maxRecDepth 100000 in
theorem cardexhelp_Same_api_Attr_cardexhelp_Plain_Attr_1.calls (k : Nat) (A0 : Option Addr) (c0 : Nat) (l0 : List (S45)) (A1 : Option Addr) (c1 : Nat) (l1 : List (S45))  (r : Bool) (w : World) (hr0 : Kd.C k45 w A0 l0.length l0) (hc0 : l0.length ≤ c0) (hr1 : Kd.C k45 w A1 l1.length l1) (hc1 : l1.length ≤ c1) (h : cardexhelp_Same_api_Attr_cardexhelp_Plain_Attr_1.f k l0 l1 = some r) :
    Calls Tryz.prog 29 #[.slice A0 l0.length c0, .slice A1 l1.length c1, .func (.func 30) #[] #[]] w fun e w' => e = .returned (.bool r) ∧ Below w.heap.size w w' := by
  have hu45 := Tryz.underlying45
  have HR0 := Aside0.mk hr0
  have HC0 := Aside0.mk hc0
  clear hr0 hc0
  have HR1 := Aside0.mk hr1
  have HC1 := Aside0.mk hc1
  clear hr1 hc1
  have HB := Aside0.mk (Below.refl w.heap.size w)
  have H : (if (l0.length : Int) = (l1.length : Int) then (cardexhelp_Same_api_Attr_cardexhelp_Plain_Attr_1.l0 k l0 l1 0) else (some false)) = some r := h
  clear h
  by_cases c4 : (l0.length : Int) = (l1.length : Int)
  · rw [if_pos c4] at H
    have c4b0 : ((l0.length : Int) == (l1.length : Int)) = true := beq_iff_eq.mpr c4
    have c4b1 : ((l0.length : Int) != (l1.length : Int)) = false := bne_eq_false_iff_eq.mpr c4
    have c4b2 : (l0.length == l1.length) = true := by first | simpa using c4 | (simp at c4 ⊢; omega)
    clear c4
    have H' := Aside0.mk H
    clear H
    go_enter Tryz.func29, Tryz.ntmps29
    go_wp2
    go_loopg [7] k (fun kq v7 w' => ∃ (x7_1 : Int), v7 = .int .i64 x7_1 ∧ Aside0 (cardexhelp_Same_api_Attr_cardexhelp_Plain_Attr_1.l0 kq l0 l1 x7_1 = some r) ∧ Aside0 (kq ≤ k) ∧ Aside0 (Below w.heap.size w w'))
    case atStart => exact ⟨(0), zz2, H', ⟨Nat.le_refl _⟩, ⟨zz0⟩⟩
    case round =>
      clear H'
      try clear c1
      try clear p2
      try clear c4
      try clear c4b0
      try clear c4b1
      try clear c4b2
      obtain ⟨x7_1, rfl, HA, HK1, HB⟩ := hrel
      cases gk with
      | zero => exact absurd HA.out (by simp [cardexhelp_Same_api_Attr_cardexhelp_Plain_Attr_1.l0])
      | succ k1 =>
        have H := HA.out
        clear HA
        simp only [cardexhelp_Same_api_Attr_cardexhelp_Plain_Attr_1.l0] at H
        by_cases c5 : x7_1 < (l0.length : Int)
        · rw [if_pos c5] at H
          have c5b0 : decide (x7_1 < (l0.length : Int)) = true := decide_eq_true c5
          clear c5
          by_cases c6 : 0 ≤ x7_1
          · rw [if_pos c6] at H
            have c6b0 : decide (0 ≤ x7_1) = true := decide_eq_true c6
            clear c6
            by_cases c7 : x7_1 < (l1.length : Int)
            · rw [if_pos c7] at H
              have c7b0 : decide (x7_1 < (l1.length : Int)) = true := decide_eq_true c7
              clear c7
              replace H := Option.bind_eq_some_iff.mp H
              obtain ⟨t438, A80, H⟩ := H
              replace H : (if t438 = true then (cardexhelp_Same_api_Attr_cardexhelp_Plain_Attr_1.l0 k1 l0 l1 (wrap64 (x7_1 + 1))) else (some false)) = some r := H
              have A8 := Aside0.mk A80
              clear A80
              by_cases c9 : t438 = true
              · subst c9
                have H1 : (cardexhelp_Same_api_Attr_cardexhelp_Plain_Attr_1.l0 k1 l0 l1 (wrap64 (x7_1 + 1))) = some r := by rw [if_pos rfl] at H; exact H
                clear H
                have H := H1
                clear H1
                have H' := Aside0.mk H
                clear H
                try go_wp2
                have n0_ := Aside0.mk (below_drew1 HB.out)
                clear HB
                have HB := n0_
                clear n0_
                have p436 : 0 ≤ (x7_1 : Int) := of_decide_eq_true zz9
                have q436 : x7_1 < (l0.length : Int) := of_decide_eq_true zz9
                obtain ⟨ad436, e436, hx436_0, hx436_1⟩ := at_T45 HR0.out x7_1 p436 q436
                have hw436_1 := hx436_1
                have hw436_0 := hx436_0
                cases e436
                replace hx436_0 := (HB.out.cell (World.block_lt_of_cell? w _ hx436_0)).trans hx436_0
                replace hx436_1 := (HB.out.cell (World.block_lt_of_cell? w _ hx436_1)).trans hx436_1
                replace p436 := eq_true p436
                replace q436 := eq_true q436
                have p437 : 0 ≤ (x7_1 : Int) := of_decide_eq_true zz9
                have q437 : x7_1 < (l1.length : Int) := of_decide_eq_true zz9
                obtain ⟨ad437, e437, hx437_0, hx437_1⟩ := at_T45 HR1.out x7_1 p437 q437
                have hw437_1 := hx437_1
                have hw437_0 := hx437_0
                cases e437
                replace hx437_0 := (HB.out.cell (World.block_lt_of_cell? w _ hx437_0)).trans hx437_0
                replace hx437_1 := (HB.out.cell (World.block_lt_of_cell? w _ hx437_1)).trans hx437_1
                replace p437 := eq_true p437
                replace q437 := eq_true q437
                refine start_ (n := 11) (S := fun w' => w'.cell? (ad436.add ((x7_1).toNat * 2)) = some (.string ((rd_T45 l0 x7_1).f0)) ∧ w'.cell? ⟨(ad436.add ((x7_1).toNat * 2)).block, (ad436.add ((x7_1).toNat * 2)).off + 1, none⟩ = some (.string ((rd_T45 l0 x7_1).f1)) ∧ w'.cell? (ad437.add ((x7_1).toNat * 2)) = some (.string ((rd_T45 l1 x7_1).f0)) ∧ w'.cell? ⟨(ad437.add ((x7_1).toNat * 2)).block, (ad437.add ((x7_1).toNat * 2)).off + 1, none⟩ = some (.string ((rd_T45 l1 x7_1).f1))) (ds := []) #[false, false, false, false, false, false, false, false, false, false, false] zz29 rfl rfl ⟨((HB.out.cell (World.block_lt_of_cell? w _ hw436_0)).trans hw436_0), ((HB.out.cell (World.block_lt_of_cell? w _ hw436_1)).trans hw436_1), ((HB.out.cell (World.block_lt_of_cell? w _ hw437_0)).trans hw437_0), ((HB.out.cell (World.block_lt_of_cell? w _ hw437_1)).trans hw437_1)⟩ (fun hHeld => ?_); refine with_tabW cardexhelp_Same_api_Attr_cardexhelp_Plain_Attr_1.tab6 cardexhelp_Same_api_Attr_cardexhelp_Plain_Attr_1.bits6 (fun HT_ HW_ => ?_)
                generalize wr.drew = w10 at HB hx436_0 hx436_1 hx437_0 hx437_1 hHeld ⊢
                refine pz 0 (some 19) ?_; refine pz 1 (some 20) ?_; refine pz 2 (some 21) ?_; refine pz 3 (some 22) ?_; refine pz 5 (some 24) ?_; refine pz 6 (some 25) ?_; refine pz 7 (some 26) ?_; refine t4 4 (some 23) ?_; refine t4 8 (some 27) ?_
                refine one_ (i := 9) (N := some 28) #[true, true, true, true, true, true, true, true, true, true, false] rfl rfl (one_of HT_.out zz29) (by decide) (fun K hK => ?_)
                refine goesR0 (by rfl) (by first | rfl | (simp; done)) ⟨⟨_, Tryz.func30, zz29, rfl⟩⟩ #[.agg #[.string ((rd_T45 l0 x7_1).f0), .string ((rd_T45 l0 x7_1).f1)], .agg #[.string ((rd_T45 l1 x7_1).f0), .string ((rd_T45 l1 x7_1).f1)]] (by rfl) rfl zz1 ?_
                with_reducible refine (api_Attr_1.calls ((rd_T45 l0 x7_1).f0) ((rd_T45 l0 x7_1).f1) ((rd_T45 l1 x7_1).f0) ((rd_T45 l1 x7_1).f1) true _ A8.out).mono ?_
                rintro e w11 ⟨rfl, hb⟩
                refine ⟨_, rfl, ?_⟩
                have n0_ := Aside0.mk (below_step zz0 hb)
                clear HB
                have HB := n0_
                clear n0_
                (try clear hb)
                (try clear hb2)
                (try clear hk)
                (try clear hi)
                refine hK.out _ _ ⟨((HB.out.cell (World.block_lt_of_cell? w _ hw436_0)).trans hw436_0), ((HB.out.cell (World.block_lt_of_cell? w _ hw436_1)).trans hw436_1), ((HB.out.cell (World.block_lt_of_cell? w _ hw437_0)).trans hw437_0), ((HB.out.cell (World.block_lt_of_cell? w _ hw437_1)).trans hw437_1)⟩ (fun hHeld => ?_)
                clear hK K
                refine norm_ (a' := ?_) ?_ ?_
                rotate_left
                · show Act.put _ (some 28) _ = _
                  simp only [Act.put, List.setIfInBounds_toArray, List.set_cons_zero, List.set_cons_succ, i64_w, i32_w]
                  rfl
                refine pz 10 (some 29) ?_
                refine done_ (done_of HT_.out zz29) ?_
                try go_wp2
                go_roundg k1
                case measure => have := HK1.out; omega
                case rel => exact ⟨(wrap64 (x7_1 + 1)), zz2, H', ⟨by have := HK1.out; omega⟩, ⟨zz0⟩⟩
              · replace c9 := Bool.eq_false_iff.mpr c9
                subst c9
                have H1 : (some false) = some r := by rw [if_neg (show ¬ (false = true) by decide)] at H; exact H
                clear H
                have H := H1
                clear H1
                obtain rfl := Option.some.inj H
                try go_wp2
                have n0_ := Aside0.mk (below_drew1 HB.out)
                clear HB
                have HB := n0_
                clear n0_
                have p436 : 0 ≤ (x7_1 : Int) := of_decide_eq_true zz9
                have q436 : x7_1 < (l0.length : Int) := of_decide_eq_true zz9
                obtain ⟨ad436, e436, hx436_0, hx436_1⟩ := at_T45 HR0.out x7_1 p436 q436
                have hw436_1 := hx436_1
                have hw436_0 := hx436_0
                cases e436
                replace hx436_0 := (HB.out.cell (World.block_lt_of_cell? w _ hx436_0)).trans hx436_0
                replace hx436_1 := (HB.out.cell (World.block_lt_of_cell? w _ hx436_1)).trans hx436_1
                replace p436 := eq_true p436
                replace q436 := eq_true q436
                have p437 : 0 ≤ (x7_1 : Int) := of_decide_eq_true zz9
                have q437 : x7_1 < (l1.length : Int) := of_decide_eq_true zz9
                obtain ⟨ad437, e437, hx437_0, hx437_1⟩ := at_T45 HR1.out x7_1 p437 q437
                have hw437_1 := hx437_1
                have hw437_0 := hx437_0
                cases e437
                replace hx437_0 := (HB.out.cell (World.block_lt_of_cell? w _ hx437_0)).trans hx437_0
                replace hx437_1 := (HB.out.cell (World.block_lt_of_cell? w _ hx437_1)).trans hx437_1
                replace p437 := eq_true p437
                replace q437 := eq_true q437
                refine start_ (n := 11) (S := fun w' => w'.cell? (ad436.add ((x7_1).toNat * 2)) = some (.string ((rd_T45 l0 x7_1).f0)) ∧ w'.cell? ⟨(ad436.add ((x7_1).toNat * 2)).block, (ad436.add ((x7_1).toNat * 2)).off + 1, none⟩ = some (.string ((rd_T45 l0 x7_1).f1)) ∧ w'.cell? (ad437.add ((x7_1).toNat * 2)) = some (.string ((rd_T45 l1 x7_1).f0)) ∧ w'.cell? ⟨(ad437.add ((x7_1).toNat * 2)).block, (ad437.add ((x7_1).toNat * 2)).off + 1, none⟩ = some (.string ((rd_T45 l1 x7_1).f1))) (ds := []) #[false, false, false, false, false, false, false, false, false, false, false] zz29 rfl rfl ⟨((HB.out.cell (World.block_lt_of_cell? w _ hw436_0)).trans hw436_0), ((HB.out.cell (World.block_lt_of_cell? w _ hw436_1)).trans hw436_1), ((HB.out.cell (World.block_lt_of_cell? w _ hw437_0)).trans hw437_0), ((HB.out.cell (World.block_lt_of_cell? w _ hw437_1)).trans hw437_1)⟩ (fun hHeld => ?_); refine with_tabW cardexhelp_Same_api_Attr_cardexhelp_Plain_Attr_1.tab6 cardexhelp_Same_api_Attr_cardexhelp_Plain_Attr_1.bits6 (fun HT_ HW_ => ?_)
                generalize wr.drew = w12 at HB hx436_0 hx436_1 hx437_0 hx437_1 hHeld ⊢
                refine pz 0 (some 19) ?_; refine pz 1 (some 20) ?_; refine pz 2 (some 21) ?_; refine pz 3 (some 22) ?_; refine pz 5 (some 24) ?_; refine pz 6 (some 25) ?_; refine pz 7 (some 26) ?_; refine t4 4 (some 23) ?_; refine t4 8 (some 27) ?_
                refine one_ (i := 9) (N := some 28) #[true, true, true, true, true, true, true, true, true, true, false] rfl rfl (one_of HT_.out zz29) (by decide) (fun K hK => ?_)
                refine goesR0 (by rfl) (by first | rfl | (simp; done)) ⟨⟨_, Tryz.func30, zz29, rfl⟩⟩ #[.agg #[.string ((rd_T45 l0 x7_1).f0), .string ((rd_T45 l0 x7_1).f1)], .agg #[.string ((rd_T45 l1 x7_1).f0), .string ((rd_T45 l1 x7_1).f1)]] (by rfl) rfl zz1 ?_
                with_reducible refine (api_Attr_1.calls ((rd_T45 l0 x7_1).f0) ((rd_T45 l0 x7_1).f1) ((rd_T45 l1 x7_1).f0) ((rd_T45 l1 x7_1).f1) false _ A8.out).mono ?_
                rintro e w13 ⟨rfl, hb⟩
                refine ⟨_, rfl, ?_⟩
                have n0_ := Aside0.mk (below_step zz0 hb)
                clear HB
                have HB := n0_
                clear n0_
                (try clear hb)
                (try clear hb2)
                (try clear hk)
                (try clear hi)
                refine hK.out _ _ ⟨((HB.out.cell (World.block_lt_of_cell? w _ hw436_0)).trans hw436_0), ((HB.out.cell (World.block_lt_of_cell? w _ hw436_1)).trans hw436_1), ((HB.out.cell (World.block_lt_of_cell? w _ hw437_0)).trans hw437_0), ((HB.out.cell (World.block_lt_of_cell? w _ hw437_1)).trans hw437_1)⟩ (fun hHeld => ?_)
                clear hK K
                refine norm_ (a' := ?_) ?_ ?_
                rotate_left
                · show Act.put _ (some 28) _ = _
                  simp only [Act.put, List.setIfInBounds_toArray, List.set_cons_zero, List.set_cons_succ, i64_w, i32_w]
                  rfl
                refine pz 10 (some 29) ?_
                refine done_ (done_of HT_.out zz29) ?_
                try go_wp2
                go_ret
                exact ⟨zz4, zz0⟩
            · rw [if_neg c7] at H
              exact absurd H (by simp)
          · rw [if_neg c6] at H
            exact absurd H (by simp)
        · rw [if_neg c5] at H
          have c5b0 : decide (x7_1 < (l0.length : Int)) = false := decide_eq_false c5
          clear c5
          obtain rfl := Option.some.inj H
          go_wp2
          go_ret
          exact ⟨zz4, zz0⟩
  · rw [if_neg c4] at H
    have c4b0 : ((l0.length : Int) == (l1.length : Int)) = false := beq_eq_false_iff_ne.mpr c4
    have c4b1 : ((l0.length : Int) != (l1.length : Int)) = true := bne_iff_ne.mpr c4
    have c4b2 : (l0.length == l1.length) = false := by first | simpa using c4 | (simp at c4 ⊢; omega)
    obtain rfl := Option.some.inj H
    go_enter Tryz.func29, Tryz.ntmps29
    go_wp2
    go_ret
    exact ⟨zz4, zz0⟩
def api_Attr_16.f (k : Nat) (l0 : List (S45)) (l1 : List (S45)) : Option (Bool) := (cardexhelp_Same_api_Attr_cardexhelp_Plain_Attr_1.f k l0 l1).bind fun t439 => (some t439)
set_option maxHeartbeats 8000000 in
set_option maxRecDepth 100000 in
theorem api_Attr_16.calls (k : Nat) (A0 : Option Addr) (c0 : Nat) (l0 : List (S45)) (A1 : Option Addr) (c1 : Nat) (l1 : List (S45)) (r : Bool) (w : World) (hr0 : Kd.C k45 w A0 l0.length l0) (hc0 : l0.length ≤ c0) (hr1 : Kd.C k45 w A1 l1.length l1) (hc1 : l1.length ≤ c1) (h : api_Attr_16.f k l0 l1 = some r) :
    Calls Tryz.prog 16 #[.slice A0 l0.length c0, .slice A1 l1.length c1] w fun e w' => e = .returned (.bool r) ∧ Below w.heap.size w w' := by
  have HR0 := Aside0.mk hr0
  have HC0 := Aside0.mk hc0
  clear hr0 hc0
  have HR1 := Aside0.mk hr1
  have HC1 := Aside0.mk hc1
  clear hr1 hc1
  have HB := Aside0.mk (Below.refl w.heap.size w)
  have H : ((cardexhelp_Same_api_Attr_cardexhelp_Plain_Attr_1.f k l0 l1).bind fun t439 => (some t439)) = some r := h
  clear h
  replace H := Option.bind_eq_some_iff.mp H
  obtain ⟨t439, A30, H⟩ := H
  replace H : (some t439) = some r := H
  have A3 := Aside0.mk A30
  clear A30
  obtain rfl := Option.some.inj H
  go_enter Tryz.func16, Tryz.ntmps16
  go_wp2_with (first | ((with_reducible refine gate_callee (f := 29) rfl ?_); refine goesL_ (some 7) rfl rfl Tryz.func29 zz29 rfl #[.slice A0 l0.length c0, .slice A1 l1.length c1, .func (.func 30) #[] #[]] rfl zz1 ?_; (with_reducible refine (cardexhelp_Same_api_Attr_cardexhelp_Plain_Attr_1.calls k _ _ l0 _ _ l1  t439 _ ?side1 ?side2 ?side3 ?side4 A3.out).mono ?_); (case side1 => exact (by repeat (first | exact HR0.out | (with_reducible refine Kd.C_alloc ?_ _) | (with_reducible refine Kd.C_drewN ?_ _) | (with_reducible refine Kd.C_drew ?_)))); (case side2 => exact HC0.out); (case side3 => exact (by repeat (first | exact HR1.out | (with_reducible refine Kd.C_alloc ?_ _) | (with_reducible refine Kd.C_drewN ?_ _) | (with_reducible refine Kd.C_drew ?_)))); (case side4 => exact HC1.out); rintro e w4 ⟨rfl, hb⟩; refine ⟨_, rfl, ?_⟩; have n0_ := Aside0.mk (below_step zz0 hb); clear HB; have HB := n0_; clear n0_; (try clear hb); (try clear hb2); (try clear hk); (try clear hi)))
  go_ret
  exact ⟨zz4, zz0⟩
def cardexhelp_Token.f (k : Nat) (a0_0 : Int) (a0_1 : Int) (a0_2 : ByteArray) (a0_3 : ByteArray) (l0_4 : List (S45)) (a0_5 : Bool) (a1_0 : Int) (a1_1 : Int) (a1_2 : ByteArray) (a1_3 : ByteArray) (l1_4 : List (S45)) (a1_5 : Bool) : Option (Bool) := if a0_0 = a1_0 then (if a0_1 = a1_1 then (if a0_2.toList = a1_2.toList then (if a0_3.toList = a1_3.toList then (if (a0_5 == a1_5) = true then ((api_Attr_16.f k l0_4 l1_4).bind fun t442 => (some t442)) else (some false)) else (some false)) else (some false)) else (some false)) else (some false)
set_option maxHeartbeats 8000000 in
set_option maxRecDepth 100000 in
theorem cardexhelp_Token.calls (k : Nat) (a0_0 : Int) (a0_1 : Int) (a0_2 : ByteArray) (a0_3 : ByteArray) (A0_4 : Option Addr) (c0_4 : Nat) (l0_4 : List (S45)) (a0_5 : Bool) (a1_0 : Int) (a1_1 : Int) (a1_2 : ByteArray) (a1_3 : ByteArray) (A1_4 : Option Addr) (c1_4 : Nat) (l1_4 : List (S45)) (a1_5 : Bool) (r : Bool) (w : World) (hr0_4 : Kd.C k45 w A0_4 l0_4.length l0_4) (hc0_4 : l0_4.length ≤ c0_4) (hr1_4 : Kd.C k45 w A1_4 l1_4.length l1_4) (hc1_4 : l1_4.length ≤ c1_4) (h : cardexhelp_Token.f k a0_0 a0_1 a0_2 a0_3 l0_4 a0_5 a1_0 a1_1 a1_2 a1_3 l1_4 a1_5 = some r) :
    Calls Tryz.prog 8 #[.agg #[.int .i64 a0_0, .int .i64 a0_1, .string a0_2, .string a0_3, .slice A0_4 l0_4.length c0_4, .bool a0_5], .agg #[.int .i64 a1_0, .int .i64 a1_1, .string a1_2, .string a1_3, .slice A1_4 l1_4.length c1_4, .bool a1_5]] w fun e w' => e = .returned (.bool r) ∧ Below w.heap.size w w' := by
  have hu30 := Tryz.underlying30
  have HR0_4 := Aside0.mk hr0_4
  have HC0_4 := Aside0.mk hc0_4
  clear hr0_4 hc0_4
  have HR1_4 := Aside0.mk hr1_4
  have HC1_4 := Aside0.mk hc1_4
  clear hr1_4 hc1_4
  have HB := Aside0.mk (Below.refl w.heap.size w)
  have H : (if a0_0 = a1_0 then (if a0_1 = a1_1 then (if a0_2.toList = a1_2.toList then (if a0_3.toList = a1_3.toList then (if (a0_5 == a1_5) = true then ((api_Attr_16.f k l0_4 l1_4).bind fun t442 => (some t442)) else (some false)) else (some false)) else (some false)) else (some false)) else (some false)) = some r := h
  clear h
  by_cases c3 : a0_0 = a1_0
  · rw [if_pos c3] at H
    have c3b0 : (a0_0 == a1_0) = true := beq_iff_eq.mpr c3
    have c3b1 : (a0_0 != a1_0) = false := bne_eq_false_iff_eq.mpr c3
    clear c3
    by_cases c4 : a0_1 = a1_1
    · rw [if_pos c4] at H
      have c4b0 : (a0_1 == a1_1) = true := beq_iff_eq.mpr c4
      have c4b1 : (a0_1 != a1_1) = false := bne_eq_false_iff_eq.mpr c4
      clear c4
      by_cases c5 : a0_2.toList = a1_2.toList
      · rw [if_pos c5] at H
        have c5b0 : (a0_2.toList == a1_2.toList) = true := beq_iff_eq.mpr c5
        have c5b1 : (a0_2.toList != a1_2.toList) = false := bne_eq_false_iff_eq.mpr c5
        clear c5
        by_cases c6 : a0_3.toList = a1_3.toList
        · rw [if_pos c6] at H
          have c6b0 : (a0_3.toList == a1_3.toList) = true := beq_iff_eq.mpr c6
          have c6b1 : (a0_3.toList != a1_3.toList) = false := bne_eq_false_iff_eq.mpr c6
          clear c6
          by_cases c7 : (a0_5 == a1_5) = true
          · rw [if_pos c7] at H
            have c7b0 : (a0_5 == a1_5) = true := c7
            (try (have c7b1 : decide (a0_5 = a1_5) = true := by simpa using c7))
            (try (have c7b2 : (a0_5 == a1_5) = true := by simpa using c7))
            clear c7
            replace H := Option.bind_eq_some_iff.mp H
            obtain ⟨t442, A80, H⟩ := H
            replace H : (some t442) = some r := H
            have A8 := Aside0.mk A80
            clear A80
            obtain rfl := Option.some.inj H
            go_enter Tryz.func8, Tryz.ntmps8
            go_wp2_with (first | ((with_reducible refine gate_dst (N := 2) rfl ?_); refine box_event ?hg (N := 2) ?hd (cs := #[.int .i64 a0_0, .int .i64 a0_1, .string a0_2, .string a0_3, .slice A0_4 l0_4.length c0_4, .bool a0_5]) (t := 30) ?hr ?_; (case hd => rfl); (case hg => rfl); (case hr => exact zz28); intro gb440 hg w9 hbox hb; have n0_ := Aside0.mk (below_step zz0 hb); have n1_ := Aside0.mk (hbox); have n2_ := Aside0.mk ((by rw [hg]; exact (below_size zz0) : w.heap.size ≤ gb440)); have n3_ := Aside0.mk ((by rw [hg]; exact (below_size zz0) : w.heap.size ≤ gb440)); clear HB; have HB := n0_; have BK440 := n1_; have GW440 := n2_; have GE440 := n3_; clear n0_ n1_ n2_ n3_; clear hb hbox hg) | ((with_reducible refine gate_dst (N := 3) rfl ?_); refine box_event ?hg (N := 3) ?hd (cs := #[.int .i64 a1_0, .int .i64 a1_1, .string a1_2, .string a1_3, .slice A1_4 l1_4.length c1_4, .bool a1_5]) (t := 30) ?hr ?_; (case hd => rfl); (case hg => rfl); (case hr => exact zz28); intro gb441 hg w10 hbox hb; have n0_ := Aside0.mk (blk_below (g := gb440) (o := .cells #[.int .i64 a0_0, .int .i64 a0_1, .string a0_2, .string a0_3, .slice A0_4 l0_4.length c0_4, .bool a0_5] 30 (0, 0)) zz34 hb); have n1_ := Aside0.mk (below_step zz25 hb); have n2_ := Aside0.mk (hbox); have n3_ := Aside0.mk ((by rw [hg]; exact (below_size zz25) : w.heap.size ≤ gb441)); have n4_ := Aside0.mk ((by rw [hg]; exact (below_size zz25) : w.heap.size ≤ gb441)); have n5_ := Aside0.mk ((by rw [hg]; exact Nat.ne_of_lt (blk_lt (g := gb440) (o := .cells #[.int .i64 a0_0, .int .i64 a0_1, .string a0_2, .string a0_3, .slice A0_4 l0_4.length c0_4, .bool a0_5] 30 (0, 0)) zz34) : gb440 ≠ gb441)); have n6_ := Aside0.mk ((by rw [hg]; exact Nat.ne_of_gt (blk_lt (g := gb440) (o := .cells #[.int .i64 a0_0, .int .i64 a0_1, .string a0_2, .string a0_3, .slice A0_4 l0_4.length c0_4, .bool a0_5] 30 (0, 0)) zz34) : gb441 ≠ gb440)); clear BK440; clear HB; have BK440 := n0_; have HB := n1_; have BK441 := n2_; have GW441 := n3_; have GE441 := n4_; have NB440_441 := n5_; have NB441_440 := n6_; clear n0_ n1_ n2_ n3_ n4_ n5_ n6_; clear hb hbox hg; have hnb11 := NB440_441.out; have hnc11 := NB441_440.out; have hcz12_0 : w10.cell? ⟨gb440, 0, none⟩ = some (.int .i64 a0_0) := (blk_cell BK440.out 0).trans rfl; have hcz12_1 : w10.cell? ⟨gb440, 1, none⟩ = some (.int .i64 a0_1) := (blk_cell BK440.out 1).trans rfl; have hcz12_2 : w10.cell? ⟨gb440, 2, none⟩ = some (.string a0_2) := (blk_cell BK440.out 2).trans rfl; have hcz12_3 : w10.cell? ⟨gb440, 3, none⟩ = some (.string a0_3) := (blk_cell BK440.out 3).trans rfl; have hcz12_4 : w10.cell? ⟨gb440, 4, none⟩ = some (.slice A0_4 l0_4.length c0_4) := (blk_cell BK440.out 4).trans rfl; have hcz12_5 : w10.cell? ⟨gb440, 5, none⟩ = some (.bool a0_5) := (blk_cell BK440.out 5).trans rfl; have hfz12_0 := blk_frozen BK440.out 0; have hfz12_1 := blk_frozen BK440.out 1; have hfz12_2 := blk_frozen BK440.out 2; have hfz12_3 := blk_frozen BK440.out 3; have hfz12_4 := blk_frozen BK440.out 4; have hfz12_5 := blk_frozen BK440.out 5; have hcz13_0 : w10.cell? ⟨gb441, 0, none⟩ = some (.int .i64 a1_0) := (blk_cell BK441.out 0).trans rfl; have hcz13_1 : w10.cell? ⟨gb441, 1, none⟩ = some (.int .i64 a1_1) := (blk_cell BK441.out 1).trans rfl; have hcz13_2 : w10.cell? ⟨gb441, 2, none⟩ = some (.string a1_2) := (blk_cell BK441.out 2).trans rfl; have hcz13_3 : w10.cell? ⟨gb441, 3, none⟩ = some (.string a1_3) := (blk_cell BK441.out 3).trans rfl; have hcz13_4 : w10.cell? ⟨gb441, 4, none⟩ = some (.slice A1_4 l1_4.length c1_4) := (blk_cell BK441.out 4).trans rfl; have hcz13_5 : w10.cell? ⟨gb441, 5, none⟩ = some (.bool a1_5) := (blk_cell BK441.out 5).trans rfl; have hfz13_0 := blk_frozen BK441.out 0; have hfz13_1 := blk_frozen BK441.out 1; have hfz13_2 := blk_frozen BK441.out 2; have hfz13_3 := blk_frozen BK441.out 3; have hfz13_4 := blk_frozen BK441.out 4; have hfz13_5 := blk_frozen BK441.out 5) | (go_at_call 16; (with_reducible refine (api_Attr_16.calls k _ _ l0_4 _ _ l1_4 t442 _ ?side1 ?side2 ?side3 ?side4 A8.out).mono ?_); (case side1 => exact (by repeat (first | exact (Kd.C_below HR0_4.out HB.out) | (with_reducible refine Kd.C_alloc ?_ _) | (with_reducible refine Kd.C_drewN ?_ _) | (with_reducible refine Kd.C_drew ?_)))); (case side2 => exact HC0_4.out); (case side3 => exact (by repeat (first | exact (Kd.C_below HR1_4.out HB.out) | (with_reducible refine Kd.C_alloc ?_ _) | (with_reducible refine Kd.C_drewN ?_ _) | (with_reducible refine Kd.C_drew ?_)))); (case side4 => exact HC1_4.out); rintro e w14 ⟨rfl, hb⟩; have n0_ := Aside0.mk (blk_below (g := gb440) (o := .cells #[.int .i64 a0_0, .int .i64 a0_1, .string a0_2, .string a0_3, .slice A0_4 l0_4.length c0_4, .bool a0_5] 30 (0, 0)) zz34 hb); have n1_ := Aside0.mk (blk_below (g := gb441) (o := .cells #[.int .i64 a1_0, .int .i64 a1_1, .string a1_2, .string a1_3, .slice A1_4 l1_4.length c1_4, .bool a1_5] 30 (0, 0)) (by (with_reducible repeat (first | refine blk_drewN ?_ _ | refine blk_drew ?_ | refine blk_alloc ?_ _)); exact BK441.out) hb); have n2_ := Aside0.mk (below_step zz51 hb); clear BK440; clear BK441; clear HB; have BK440 := n0_; have BK441 := n1_; have HB := n2_; clear n0_ n1_ n2_; (try clear hb); (try clear hb2); (try clear hk); (try clear hi)))
            go_ret
            exact ⟨zz4, zz51⟩
          · rw [if_neg c7] at H
            have c7b0 : (a0_5 == a1_5) = false := by simpa using c7
            (try (have c7b1 : decide (a0_5 = a1_5) = false := by simpa using c7))
            (try (have c7b2 : (a0_5 == a1_5) = false := by simpa using c7))
            (try (have c7b3 : ¬ (a0_5 = a1_5) := by simpa using c7))
            clear c7
            obtain rfl := Option.some.inj H
            go_enter Tryz.func8, Tryz.ntmps8
            go_wp2_with (first | ((with_reducible refine gate_dst (N := 2) rfl ?_); refine box_event ?hg (N := 2) ?hd (cs := #[.int .i64 a0_0, .int .i64 a0_1, .string a0_2, .string a0_3, .slice A0_4 l0_4.length c0_4, .bool a0_5]) (t := 30) ?hr ?_; (case hd => rfl); (case hg => rfl); (case hr => exact zz28); intro gb440 hg w15 hbox hb; have n0_ := Aside0.mk (below_step zz0 hb); have n1_ := Aside0.mk (hbox); have n2_ := Aside0.mk ((by rw [hg]; exact (below_size zz0) : w.heap.size ≤ gb440)); have n3_ := Aside0.mk ((by rw [hg]; exact (below_size zz0) : w.heap.size ≤ gb440)); clear HB; have HB := n0_; have BK440 := n1_; have GW440 := n2_; have GE440 := n3_; clear n0_ n1_ n2_ n3_; clear hb hbox hg) | ((with_reducible refine gate_dst (N := 3) rfl ?_); refine box_event ?hg (N := 3) ?hd (cs := #[.int .i64 a1_0, .int .i64 a1_1, .string a1_2, .string a1_3, .slice A1_4 l1_4.length c1_4, .bool a1_5]) (t := 30) ?hr ?_; (case hd => rfl); (case hg => rfl); (case hr => exact zz28); intro gb441 hg w16 hbox hb; have n0_ := Aside0.mk (blk_below (g := gb440) (o := .cells #[.int .i64 a0_0, .int .i64 a0_1, .string a0_2, .string a0_3, .slice A0_4 l0_4.length c0_4, .bool a0_5] 30 (0, 0)) zz34 hb); have n1_ := Aside0.mk (below_step zz25 hb); have n2_ := Aside0.mk (hbox); have n3_ := Aside0.mk ((by rw [hg]; exact (below_size zz25) : w.heap.size ≤ gb441)); have n4_ := Aside0.mk ((by rw [hg]; exact (below_size zz25) : w.heap.size ≤ gb441)); have n5_ := Aside0.mk ((by rw [hg]; exact Nat.ne_of_lt (blk_lt (g := gb440) (o := .cells #[.int .i64 a0_0, .int .i64 a0_1, .string a0_2, .string a0_3, .slice A0_4 l0_4.length c0_4, .bool a0_5] 30 (0, 0)) zz34) : gb440 ≠ gb441)); have n6_ := Aside0.mk ((by rw [hg]; exact Nat.ne_of_gt (blk_lt (g := gb440) (o := .cells #[.int .i64 a0_0, .int .i64 a0_1, .string a0_2, .string a0_3, .slice A0_4 l0_4.length c0_4, .bool a0_5] 30 (0, 0)) zz34) : gb441 ≠ gb440)); clear BK440; clear HB; have BK440 := n0_; have HB := n1_; have BK441 := n2_; have GW441 := n3_; have GE441 := n4_; have NB440_441 := n5_; have NB441_440 := n6_; clear n0_ n1_ n2_ n3_ n4_ n5_ n6_; clear hb hbox hg; have hnb17 := NB440_441.out; have hnc17 := NB441_440.out; have hcz18_0 : w16.cell? ⟨gb440, 0, none⟩ = some (.int .i64 a0_0) := (blk_cell BK440.out 0).trans rfl; have hcz18_1 : w16.cell? ⟨gb440, 1, none⟩ = some (.int .i64 a0_1) := (blk_cell BK440.out 1).trans rfl; have hcz18_2 : w16.cell? ⟨gb440, 2, none⟩ = some (.string a0_2) := (blk_cell BK440.out 2).trans rfl; have hcz18_3 : w16.cell? ⟨gb440, 3, none⟩ = some (.string a0_3) := (blk_cell BK440.out 3).trans rfl; have hcz18_4 : w16.cell? ⟨gb440, 4, none⟩ = some (.slice A0_4 l0_4.length c0_4) := (blk_cell BK440.out 4).trans rfl; have hcz18_5 : w16.cell? ⟨gb440, 5, none⟩ = some (.bool a0_5) := (blk_cell BK440.out 5).trans rfl; have hfz18_0 := blk_frozen BK440.out 0; have hfz18_1 := blk_frozen BK440.out 1; have hfz18_2 := blk_frozen BK440.out 2; have hfz18_3 := blk_frozen BK440.out 3; have hfz18_4 := blk_frozen BK440.out 4; have hfz18_5 := blk_frozen BK440.out 5; have hcz19_0 : w16.cell? ⟨gb441, 0, none⟩ = some (.int .i64 a1_0) := (blk_cell BK441.out 0).trans rfl; have hcz19_1 : w16.cell? ⟨gb441, 1, none⟩ = some (.int .i64 a1_1) := (blk_cell BK441.out 1).trans rfl; have hcz19_2 : w16.cell? ⟨gb441, 2, none⟩ = some (.string a1_2) := (blk_cell BK441.out 2).trans rfl; have hcz19_3 : w16.cell? ⟨gb441, 3, none⟩ = some (.string a1_3) := (blk_cell BK441.out 3).trans rfl; have hcz19_4 : w16.cell? ⟨gb441, 4, none⟩ = some (.slice A1_4 l1_4.length c1_4) := (blk_cell BK441.out 4).trans rfl; have hcz19_5 : w16.cell? ⟨gb441, 5, none⟩ = some (.bool a1_5) := (blk_cell BK441.out 5).trans rfl; have hfz19_0 := blk_frozen BK441.out 0; have hfz19_1 := blk_frozen BK441.out 1; have hfz19_2 := blk_frozen BK441.out 2; have hfz19_3 := blk_frozen BK441.out 3; have hfz19_4 := blk_frozen BK441.out 4; have hfz19_5 := blk_frozen BK441.out 5))
            go_ret
            exact ⟨zz4, zz51⟩
        · rw [if_neg c6] at H
          have c6b0 : (a0_3.toList == a1_3.toList) = false := beq_eq_false_iff_ne.mpr c6
          have c6b1 : (a0_3.toList != a1_3.toList) = true := bne_iff_ne.mpr c6
          obtain rfl := Option.some.inj H
          go_enter Tryz.func8, Tryz.ntmps8
          go_wp2_with (first | ((with_reducible refine gate_dst (N := 2) rfl ?_); refine box_event ?hg (N := 2) ?hd (cs := #[.int .i64 a0_0, .int .i64 a0_1, .string a0_2, .string a0_3, .slice A0_4 l0_4.length c0_4, .bool a0_5]) (t := 30) ?hr ?_; (case hd => rfl); (case hg => rfl); (case hr => exact zz28); intro gb440 hg w20 hbox hb; have n0_ := Aside0.mk (below_step zz0 hb); have n1_ := Aside0.mk (hbox); have n2_ := Aside0.mk ((by rw [hg]; exact (below_size zz0) : w.heap.size ≤ gb440)); have n3_ := Aside0.mk ((by rw [hg]; exact (below_size zz0) : w.heap.size ≤ gb440)); clear HB; have HB := n0_; have BK440 := n1_; have GW440 := n2_; have GE440 := n3_; clear n0_ n1_ n2_ n3_; clear hb hbox hg) | ((with_reducible refine gate_dst (N := 3) rfl ?_); refine box_event ?hg (N := 3) ?hd (cs := #[.int .i64 a1_0, .int .i64 a1_1, .string a1_2, .string a1_3, .slice A1_4 l1_4.length c1_4, .bool a1_5]) (t := 30) ?hr ?_; (case hd => rfl); (case hg => rfl); (case hr => exact zz28); intro gb441 hg w21 hbox hb; have n0_ := Aside0.mk (blk_below (g := gb440) (o := .cells #[.int .i64 a0_0, .int .i64 a0_1, .string a0_2, .string a0_3, .slice A0_4 l0_4.length c0_4, .bool a0_5] 30 (0, 0)) zz34 hb); have n1_ := Aside0.mk (below_step zz25 hb); have n2_ := Aside0.mk (hbox); have n3_ := Aside0.mk ((by rw [hg]; exact (below_size zz25) : w.heap.size ≤ gb441)); have n4_ := Aside0.mk ((by rw [hg]; exact (below_size zz25) : w.heap.size ≤ gb441)); have n5_ := Aside0.mk ((by rw [hg]; exact Nat.ne_of_lt (blk_lt (g := gb440) (o := .cells #[.int .i64 a0_0, .int .i64 a0_1, .string a0_2, .string a0_3, .slice A0_4 l0_4.length c0_4, .bool a0_5] 30 (0, 0)) zz34) : gb440 ≠ gb441)); have n6_ := Aside0.mk ((by rw [hg]; exact Nat.ne_of_gt (blk_lt (g := gb440) (o := .cells #[.int .i64 a0_0, .int .i64 a0_1, .string a0_2, .string a0_3, .slice A0_4 l0_4.length c0_4, .bool a0_5] 30 (0, 0)) zz34) : gb441 ≠ gb440)); clear BK440; clear HB; have BK440 := n0_; have HB := n1_; have BK441 := n2_; have GW441 := n3_; have GE441 := n4_; have NB440_441 := n5_; have NB441_440 := n6_; clear n0_ n1_ n2_ n3_ n4_ n5_ n6_; clear hb hbox hg; have hnb22 := NB440_441.out; have hnc22 := NB441_440.out; have hcz23_0 : w21.cell? ⟨gb440, 0, none⟩ = some (.int .i64 a0_0) := (blk_cell BK440.out 0).trans rfl; have hcz23_1 : w21.cell? ⟨gb440, 1, none⟩ = some (.int .i64 a0_1) := (blk_cell BK440.out 1).trans rfl; have hcz23_2 : w21.cell? ⟨gb440, 2, none⟩ = some (.string a0_2) := (blk_cell BK440.out 2).trans rfl; have hcz23_3 : w21.cell? ⟨gb440, 3, none⟩ = some (.string a0_3) := (blk_cell BK440.out 3).trans rfl; have hcz23_4 : w21.cell? ⟨gb440, 4, none⟩ = some (.slice A0_4 l0_4.length c0_4) := (blk_cell BK440.out 4).trans rfl; have hcz23_5 : w21.cell? ⟨gb440, 5, none⟩ = some (.bool a0_5) := (blk_cell BK440.out 5).trans rfl; have hfz23_0 := blk_frozen BK440.out 0; have hfz23_1 := blk_frozen BK440.out 1; have hfz23_2 := blk_frozen BK440.out 2; have hfz23_3 := blk_frozen BK440.out 3; have hfz23_4 := blk_frozen BK440.out 4; have hfz23_5 := blk_frozen BK440.out 5; have hcz24_0 : w21.cell? ⟨gb441, 0, none⟩ = some (.int .i64 a1_0) := (blk_cell BK441.out 0).trans rfl; have hcz24_1 : w21.cell? ⟨gb441, 1, none⟩ = some (.int .i64 a1_1) := (blk_cell BK441.out 1).trans rfl; have hcz24_2 : w21.cell? ⟨gb441, 2, none⟩ = some (.string a1_2) := (blk_cell BK441.out 2).trans rfl; have hcz24_3 : w21.cell? ⟨gb441, 3, none⟩ = some (.string a1_3) := (blk_cell BK441.out 3).trans rfl; have hcz24_4 : w21.cell? ⟨gb441, 4, none⟩ = some (.slice A1_4 l1_4.length c1_4) := (blk_cell BK441.out 4).trans rfl; have hcz24_5 : w21.cell? ⟨gb441, 5, none⟩ = some (.bool a1_5) := (blk_cell BK441.out 5).trans rfl; have hfz24_0 := blk_frozen BK441.out 0; have hfz24_1 := blk_frozen BK441.out 1; have hfz24_2 := blk_frozen BK441.out 2; have hfz24_3 := blk_frozen BK441.out 3; have hfz24_4 := blk_frozen BK441.out 4; have hfz24_5 := blk_frozen BK441.out 5))
          go_ret
          exact ⟨zz4, zz51⟩
      · rw [if_neg c5] at H
        have c5b0 : (a0_2.toList == a1_2.toList) = false := beq_eq_false_iff_ne.mpr c5
        have c5b1 : (a0_2.toList != a1_2.toList) = true := bne_iff_ne.mpr c5
        obtain rfl := Option.some.inj H
        go_enter Tryz.func8, Tryz.ntmps8
        go_wp2_with (first | ((with_reducible refine gate_dst (N := 2) rfl ?_); refine box_event ?hg (N := 2) ?hd (cs := #[.int .i64 a0_0, .int .i64 a0_1, .string a0_2, .string a0_3, .slice A0_4 l0_4.length c0_4, .bool a0_5]) (t := 30) ?hr ?_; (case hd => rfl); (case hg => rfl); (case hr => exact zz28); intro gb440 hg w25 hbox hb; have n0_ := Aside0.mk (below_step zz0 hb); have n1_ := Aside0.mk (hbox); have n2_ := Aside0.mk ((by rw [hg]; exact (below_size zz0) : w.heap.size ≤ gb440)); have n3_ := Aside0.mk ((by rw [hg]; exact (below_size zz0) : w.heap.size ≤ gb440)); clear HB; have HB := n0_; have BK440 := n1_; have GW440 := n2_; have GE440 := n3_; clear n0_ n1_ n2_ n3_; clear hb hbox hg) | ((with_reducible refine gate_dst (N := 3) rfl ?_); refine box_event ?hg (N := 3) ?hd (cs := #[.int .i64 a1_0, .int .i64 a1_1, .string a1_2, .string a1_3, .slice A1_4 l1_4.length c1_4, .bool a1_5]) (t := 30) ?hr ?_; (case hd => rfl); (case hg => rfl); (case hr => exact zz28); intro gb441 hg w26 hbox hb; have n0_ := Aside0.mk (blk_below (g := gb440) (o := .cells #[.int .i64 a0_0, .int .i64 a0_1, .string a0_2, .string a0_3, .slice A0_4 l0_4.length c0_4, .bool a0_5] 30 (0, 0)) zz34 hb); have n1_ := Aside0.mk (below_step zz25 hb); have n2_ := Aside0.mk (hbox); have n3_ := Aside0.mk ((by rw [hg]; exact (below_size zz25) : w.heap.size ≤ gb441)); have n4_ := Aside0.mk ((by rw [hg]; exact (below_size zz25) : w.heap.size ≤ gb441)); have n5_ := Aside0.mk ((by rw [hg]; exact Nat.ne_of_lt (blk_lt (g := gb440) (o := .cells #[.int .i64 a0_0, .int .i64 a0_1, .string a0_2, .string a0_3, .slice A0_4 l0_4.length c0_4, .bool a0_5] 30 (0, 0)) zz34) : gb440 ≠ gb441)); have n6_ := Aside0.mk ((by rw [hg]; exact Nat.ne_of_gt (blk_lt (g := gb440) (o := .cells #[.int .i64 a0_0, .int .i64 a0_1, .string a0_2, .string a0_3, .slice A0_4 l0_4.length c0_4, .bool a0_5] 30 (0, 0)) zz34) : gb441 ≠ gb440)); clear BK440; clear HB; have BK440 := n0_; have HB := n1_; have BK441 := n2_; have GW441 := n3_; have GE441 := n4_; have NB440_441 := n5_; have NB441_440 := n6_; clear n0_ n1_ n2_ n3_ n4_ n5_ n6_; clear hb hbox hg; have hnb27 := NB440_441.out; have hnc27 := NB441_440.out; have hcz28_0 : w26.cell? ⟨gb440, 0, none⟩ = some (.int .i64 a0_0) := (blk_cell BK440.out 0).trans rfl; have hcz28_1 : w26.cell? ⟨gb440, 1, none⟩ = some (.int .i64 a0_1) := (blk_cell BK440.out 1).trans rfl; have hcz28_2 : w26.cell? ⟨gb440, 2, none⟩ = some (.string a0_2) := (blk_cell BK440.out 2).trans rfl; have hcz28_3 : w26.cell? ⟨gb440, 3, none⟩ = some (.string a0_3) := (blk_cell BK440.out 3).trans rfl; have hcz28_4 : w26.cell? ⟨gb440, 4, none⟩ = some (.slice A0_4 l0_4.length c0_4) := (blk_cell BK440.out 4).trans rfl; have hcz28_5 : w26.cell? ⟨gb440, 5, none⟩ = some (.bool a0_5) := (blk_cell BK440.out 5).trans rfl; have hfz28_0 := blk_frozen BK440.out 0; have hfz28_1 := blk_frozen BK440.out 1; have hfz28_2 := blk_frozen BK440.out 2; have hfz28_3 := blk_frozen BK440.out 3; have hfz28_4 := blk_frozen BK440.out 4; have hfz28_5 := blk_frozen BK440.out 5; have hcz29_0 : w26.cell? ⟨gb441, 0, none⟩ = some (.int .i64 a1_0) := (blk_cell BK441.out 0).trans rfl; have hcz29_1 : w26.cell? ⟨gb441, 1, none⟩ = some (.int .i64 a1_1) := (blk_cell BK441.out 1).trans rfl; have hcz29_2 : w26.cell? ⟨gb441, 2, none⟩ = some (.string a1_2) := (blk_cell BK441.out 2).trans rfl; have hcz29_3 : w26.cell? ⟨gb441, 3, none⟩ = some (.string a1_3) := (blk_cell BK441.out 3).trans rfl; have hcz29_4 : w26.cell? ⟨gb441, 4, none⟩ = some (.slice A1_4 l1_4.length c1_4) := (blk_cell BK441.out 4).trans rfl; have hcz29_5 : w26.cell? ⟨gb441, 5, none⟩ = some (.bool a1_5) := (blk_cell BK441.out 5).trans rfl; have hfz29_0 := blk_frozen BK441.out 0; have hfz29_1 := blk_frozen BK441.out 1; have hfz29_2 := blk_frozen BK441.out 2; have hfz29_3 := blk_frozen BK441.out 3; have hfz29_4 := blk_frozen BK441.out 4; have hfz29_5 := blk_frozen BK441.out 5))
        go_ret
        exact ⟨zz4, zz51⟩
    · rw [if_neg c4] at H
      have c4b0 : (a0_1 == a1_1) = false := beq_eq_false_iff_ne.mpr c4
      have c4b1 : (a0_1 != a1_1) = true := bne_iff_ne.mpr c4
      obtain rfl := Option.some.inj H
      go_enter Tryz.func8, Tryz.ntmps8
      go_wp2_with (first | ((with_reducible refine gate_dst (N := 2) rfl ?_); refine box_event ?hg (N := 2) ?hd (cs := #[.int .i64 a0_0, .int .i64 a0_1, .string a0_2, .string a0_3, .slice A0_4 l0_4.length c0_4, .bool a0_5]) (t := 30) ?hr ?_; (case hd => rfl); (case hg => rfl); (case hr => exact zz28); intro gb440 hg w30 hbox hb; have n0_ := Aside0.mk (below_step zz0 hb); have n1_ := Aside0.mk (hbox); have n2_ := Aside0.mk ((by rw [hg]; exact (below_size zz0) : w.heap.size ≤ gb440)); have n3_ := Aside0.mk ((by rw [hg]; exact (below_size zz0) : w.heap.size ≤ gb440)); clear HB; have HB := n0_; have BK440 := n1_; have GW440 := n2_; have GE440 := n3_; clear n0_ n1_ n2_ n3_; clear hb hbox hg) | ((with_reducible refine gate_dst (N := 3) rfl ?_); refine box_event ?hg (N := 3) ?hd (cs := #[.int .i64 a1_0, .int .i64 a1_1, .string a1_2, .string a1_3, .slice A1_4 l1_4.length c1_4, .bool a1_5]) (t := 30) ?hr ?_; (case hd => rfl); (case hg => rfl); (case hr => exact zz28); intro gb441 hg w31 hbox hb; have n0_ := Aside0.mk (blk_below (g := gb440) (o := .cells #[.int .i64 a0_0, .int .i64 a0_1, .string a0_2, .string a0_3, .slice A0_4 l0_4.length c0_4, .bool a0_5] 30 (0, 0)) zz34 hb); have n1_ := Aside0.mk (below_step zz25 hb); have n2_ := Aside0.mk (hbox); have n3_ := Aside0.mk ((by rw [hg]; exact (below_size zz25) : w.heap.size ≤ gb441)); have n4_ := Aside0.mk ((by rw [hg]; exact (below_size zz25) : w.heap.size ≤ gb441)); have n5_ := Aside0.mk ((by rw [hg]; exact Nat.ne_of_lt (blk_lt (g := gb440) (o := .cells #[.int .i64 a0_0, .int .i64 a0_1, .string a0_2, .string a0_3, .slice A0_4 l0_4.length c0_4, .bool a0_5] 30 (0, 0)) zz34) : gb440 ≠ gb441)); have n6_ := Aside0.mk ((by rw [hg]; exact Nat.ne_of_gt (blk_lt (g := gb440) (o := .cells #[.int .i64 a0_0, .int .i64 a0_1, .string a0_2, .string a0_3, .slice A0_4 l0_4.length c0_4, .bool a0_5] 30 (0, 0)) zz34) : gb441 ≠ gb440)); clear BK440; clear HB; have BK440 := n0_; have HB := n1_; have BK441 := n2_; have GW441 := n3_; have GE441 := n4_; have NB440_441 := n5_; have NB441_440 := n6_; clear n0_ n1_ n2_ n3_ n4_ n5_ n6_; clear hb hbox hg; have hnb32 := NB440_441.out; have hnc32 := NB441_440.out; have hcz33_0 : w31.cell? ⟨gb440, 0, none⟩ = some (.int .i64 a0_0) := (blk_cell BK440.out 0).trans rfl; have hcz33_1 : w31.cell? ⟨gb440, 1, none⟩ = some (.int .i64 a0_1) := (blk_cell BK440.out 1).trans rfl; have hcz33_2 : w31.cell? ⟨gb440, 2, none⟩ = some (.string a0_2) := (blk_cell BK440.out 2).trans rfl; have hcz33_3 : w31.cell? ⟨gb440, 3, none⟩ = some (.string a0_3) := (blk_cell BK440.out 3).trans rfl; have hcz33_4 : w31.cell? ⟨gb440, 4, none⟩ = some (.slice A0_4 l0_4.length c0_4) := (blk_cell BK440.out 4).trans rfl; have hcz33_5 : w31.cell? ⟨gb440, 5, none⟩ = some (.bool a0_5) := (blk_cell BK440.out 5).trans rfl; have hfz33_0 := blk_frozen BK440.out 0; have hfz33_1 := blk_frozen BK440.out 1; have hfz33_2 := blk_frozen BK440.out 2; have hfz33_3 := blk_frozen BK440.out 3; have hfz33_4 := blk_frozen BK440.out 4; have hfz33_5 := blk_frozen BK440.out 5; have hcz34_0 : w31.cell? ⟨gb441, 0, none⟩ = some (.int .i64 a1_0) := (blk_cell BK441.out 0).trans rfl; have hcz34_1 : w31.cell? ⟨gb441, 1, none⟩ = some (.int .i64 a1_1) := (blk_cell BK441.out 1).trans rfl; have hcz34_2 : w31.cell? ⟨gb441, 2, none⟩ = some (.string a1_2) := (blk_cell BK441.out 2).trans rfl; have hcz34_3 : w31.cell? ⟨gb441, 3, none⟩ = some (.string a1_3) := (blk_cell BK441.out 3).trans rfl; have hcz34_4 : w31.cell? ⟨gb441, 4, none⟩ = some (.slice A1_4 l1_4.length c1_4) := (blk_cell BK441.out 4).trans rfl; have hcz34_5 : w31.cell? ⟨gb441, 5, none⟩ = some (.bool a1_5) := (blk_cell BK441.out 5).trans rfl; have hfz34_0 := blk_frozen BK441.out 0; have hfz34_1 := blk_frozen BK441.out 1; have hfz34_2 := blk_frozen BK441.out 2; have hfz34_3 := blk_frozen BK441.out 3; have hfz34_4 := blk_frozen BK441.out 4; have hfz34_5 := blk_frozen BK441.out 5))
      go_ret
      exact ⟨zz4, zz51⟩
  · rw [if_neg c3] at H
    have c3b0 : (a0_0 == a1_0) = false := beq_eq_false_iff_ne.mpr c3
    have c3b1 : (a0_0 != a1_0) = true := bne_iff_ne.mpr c3
    obtain rfl := Option.some.inj H
    go_enter Tryz.func8, Tryz.ntmps8
    go_wp2_with (first | ((with_reducible refine gate_dst (N := 2) rfl ?_); refine box_event ?hg (N := 2) ?hd (cs := #[.int .i64 a0_0, .int .i64 a0_1, .string a0_2, .string a0_3, .slice A0_4 l0_4.length c0_4, .bool a0_5]) (t := 30) ?hr ?_; (case hd => rfl); (case hg => rfl); (case hr => exact zz28); intro gb440 hg w35 hbox hb; have n0_ := Aside0.mk (below_step zz0 hb); have n1_ := Aside0.mk (hbox); have n2_ := Aside0.mk ((by rw [hg]; exact (below_size zz0) : w.heap.size ≤ gb440)); have n3_ := Aside0.mk ((by rw [hg]; exact (below_size zz0) : w.heap.size ≤ gb440)); clear HB; have HB := n0_; have BK440 := n1_; have GW440 := n2_; have GE440 := n3_; clear n0_ n1_ n2_ n3_; clear hb hbox hg) | ((with_reducible refine gate_dst (N := 3) rfl ?_); refine box_event ?hg (N := 3) ?hd (cs := #[.int .i64 a1_0, .int .i64 a1_1, .string a1_2, .string a1_3, .slice A1_4 l1_4.length c1_4, .bool a1_5]) (t := 30) ?hr ?_; (case hd => rfl); (case hg => rfl); (case hr => exact zz28); intro gb441 hg w36 hbox hb; have n0_ := Aside0.mk (blk_below (g := gb440) (o := .cells #[.int .i64 a0_0, .int .i64 a0_1, .string a0_2, .string a0_3, .slice A0_4 l0_4.length c0_4, .bool a0_5] 30 (0, 0)) zz34 hb); have n1_ := Aside0.mk (below_step zz25 hb); have n2_ := Aside0.mk (hbox); have n3_ := Aside0.mk ((by rw [hg]; exact (below_size zz25) : w.heap.size ≤ gb441)); have n4_ := Aside0.mk ((by rw [hg]; exact (below_size zz25) : w.heap.size ≤ gb441)); have n5_ := Aside0.mk ((by rw [hg]; exact Nat.ne_of_lt (blk_lt (g := gb440) (o := .cells #[.int .i64 a0_0, .int .i64 a0_1, .string a0_2, .string a0_3, .slice A0_4 l0_4.length c0_4, .bool a0_5] 30 (0, 0)) zz34) : gb440 ≠ gb441)); have n6_ := Aside0.mk ((by rw [hg]; exact Nat.ne_of_gt (blk_lt (g := gb440) (o := .cells #[.int .i64 a0_0, .int .i64 a0_1, .string a0_2, .string a0_3, .slice A0_4 l0_4.length c0_4, .bool a0_5] 30 (0, 0)) zz34) : gb441 ≠ gb440)); clear BK440; clear HB; have BK440 := n0_; have HB := n1_; have BK441 := n2_; have GW441 := n3_; have GE441 := n4_; have NB440_441 := n5_; have NB441_440 := n6_; clear n0_ n1_ n2_ n3_ n4_ n5_ n6_; clear hb hbox hg; have hnb37 := NB440_441.out; have hnc37 := NB441_440.out; have hcz38_0 : w36.cell? ⟨gb440, 0, none⟩ = some (.int .i64 a0_0) := (blk_cell BK440.out 0).trans rfl; have hcz38_1 : w36.cell? ⟨gb440, 1, none⟩ = some (.int .i64 a0_1) := (blk_cell BK440.out 1).trans rfl; have hcz38_2 : w36.cell? ⟨gb440, 2, none⟩ = some (.string a0_2) := (blk_cell BK440.out 2).trans rfl; have hcz38_3 : w36.cell? ⟨gb440, 3, none⟩ = some (.string a0_3) := (blk_cell BK440.out 3).trans rfl; have hcz38_4 : w36.cell? ⟨gb440, 4, none⟩ = some (.slice A0_4 l0_4.length c0_4) := (blk_cell BK440.out 4).trans rfl; have hcz38_5 : w36.cell? ⟨gb440, 5, none⟩ = some (.bool a0_5) := (blk_cell BK440.out 5).trans rfl; have hfz38_0 := blk_frozen BK440.out 0; have hfz38_1 := blk_frozen BK440.out 1; have hfz38_2 := blk_frozen BK440.out 2; have hfz38_3 := blk_frozen BK440.out 3; have hfz38_4 := blk_frozen BK440.out 4; have hfz38_5 := blk_frozen BK440.out 5; have hcz39_0 : w36.cell? ⟨gb441, 0, none⟩ = some (.int .i64 a1_0) := (blk_cell BK441.out 0).trans rfl; have hcz39_1 : w36.cell? ⟨gb441, 1, none⟩ = some (.int .i64 a1_1) := (blk_cell BK441.out 1).trans rfl; have hcz39_2 : w36.cell? ⟨gb441, 2, none⟩ = some (.string a1_2) := (blk_cell BK441.out 2).trans rfl; have hcz39_3 : w36.cell? ⟨gb441, 3, none⟩ = some (.string a1_3) := (blk_cell BK441.out 3).trans rfl; have hcz39_4 : w36.cell? ⟨gb441, 4, none⟩ = some (.slice A1_4 l1_4.length c1_4) := (blk_cell BK441.out 4).trans rfl; have hcz39_5 : w36.cell? ⟨gb441, 5, none⟩ = some (.bool a1_5) := (blk_cell BK441.out 5).trans rfl; have hfz39_0 := blk_frozen BK441.out 0; have hfz39_1 := blk_frozen BK441.out 1; have hfz39_2 := blk_frozen BK441.out 2; have hfz39_3 := blk_frozen BK441.out 3; have hfz39_4 := blk_frozen BK441.out 4; have hfz39_5 := blk_frozen BK441.out 5))
    go_ret
    exact ⟨zz4, zz51⟩
end Go.Proofs.YtjijbncheikagaaGreatDoor.Q
