-- Written by hookprint.py (wip/) of this session: the kit's print with hand-proved functions beside it. Not trusted: Lean checks it.
import Derived.Test.YtaekklpphlcngaaGreatDoorQ0
import Derived.Test.YtaekklpphlcngaaGreatDoorQ8
import Derived.Test.YtaekklpphlcngaaGreatDoorQ9
namespace Go.Proofs.YtaekklpphlcngaaGreatDoor.Q
open List (setIfInBounds_toArray set_cons_zero set_cons_succ)
open Go.RowKit Go.Lib Go.Proofs.YtaekklpphlcngaaGreatDoorX Go.Proofs.YtaekklpphlcngaaGreatDoorW.PrintWords Go.Proofs.YtaekklpphlcngaaGreatDoorW.PrintLast Go.Proofs.YtaekklpphlcngaaGreatDoorW.PrintMore
set_option linter.unusedVariables false
set_option linter.unusedSimpArgs false
def cardexref01_allowed.f (k : Nat) (a0 : Int) (a1 : Int) : Option (Bool) := if a0 = 1 then ((cardexref01_Banned.f k).bind fun t369 => ((cardexref01_In.f k t369 a1).bind fun t372 => (if t372 = true then (some false) else ((cardexhelp_In_int.f k (([32, 34, 38, 39, 47, 58, 60, 62, 64] : List Int)) a1).bind fun t376 => (some (!t376)))))) else (if a0 = 2 then (if a1 ≥ 48 then (if a1 ≤ 57 then (some true) else (if a1 = 45 then (some true) else (if a1 = 46 then (some true) else ((cardexref01_Letters.f k).bind fun t377 => ((cardexref01_In.f k t377 a1).bind fun t380 => (if t380 = true then (some true) else ((cardexref01_RightLeft.f k).bind fun t381 => ((cardexref01_In.f k t381 a1).bind fun t384 => (some t384))))))))) else (if a1 = 45 then (some true) else (if a1 = 46 then (some true) else ((cardexref01_Letters.f k).bind fun t385 => ((cardexref01_In.f k t385 a1).bind fun t388 => (if t388 = true then (some true) else ((cardexref01_RightLeft.f k).bind fun t389 => ((cardexref01_In.f k t389 a1).bind fun t392 => (some t392))))))))) else ((cardexref01_Banned.f k).bind fun t393 => ((cardexref01_In.f k t393 a1).bind fun t396 => (some (!t396)))))
set_option maxHeartbeats 8000000 in
set_option maxRecDepth 100000 in
theorem cardexref01_allowed.calls (k : Nat) (a0 : Int) (a1 : Int) (r : Bool) (w : World) (h : cardexref01_allowed.f k a0 a1 = some r) :
  Calls Tryz.prog 102 #[.int .i64 a0, .int .i64 a1] w fun e w' => e = .returned (.bool r) ∧ Below w.heap.size w w' := by
 have HB := Aside0.mk (Below.refl w.heap.size w)
 have H : (if a0 = 1 then ((cardexref01_Banned.f k).bind fun t369 => ((cardexref01_In.f k t369 a1).bind fun t372 => (if t372 = true then (some false) else ((cardexhelp_In_int.f k (([32, 34, 38, 39, 47, 58, 60, 62, 64] : List Int)) a1).bind fun t376 => (some (!t376)))))) else (if a0 = 2 then (if a1 ≥ 48 then (if a1 ≤ 57 then (some true) else (if a1 = 45 then (some true) else (if a1 = 46 then (some true) else ((cardexref01_Letters.f k).bind fun t377 => ((cardexref01_In.f k t377 a1).bind fun t380 => (if t380 = true then (some true) else ((cardexref01_RightLeft.f k).bind fun t381 => ((cardexref01_In.f k t381 a1).bind fun t384 => (some t384))))))))) else (if a1 = 45 then (some true) else (if a1 = 46 then (some true) else ((cardexref01_Letters.f k).bind fun t385 => ((cardexref01_In.f k t385 a1).bind fun t388 => (if t388 = true then (some true) else ((cardexref01_RightLeft.f k).bind fun t389 => ((cardexref01_In.f k t389 a1).bind fun t392 => (some t392))))))))) else ((cardexref01_Banned.f k).bind fun t393 => ((cardexref01_In.f k t393 a1).bind fun t396 => (some (!t396)))))) = some r := h
 clear h
 by_cases c3 : a0 = 1
 ·rw [if_pos c3] at H
  obtain ⟨c3b0, c3b1⟩ := eqT c3
  clear c3
  replace H := Option.bind_eq_some_iff.mp H
  obtain ⟨t369, A40, H⟩ := H
  try dsimp only at H
  have A4 := Aside0.mk A40
  clear A40
  replace H := Option.bind_eq_some_iff.mp H
  obtain ⟨t372, A50, H⟩ := H
  try dsimp only at H
  have A5 := Aside0.mk A50
  clear A50
  by_cases c6 : t372 = true
  ·subst c6
   have H1 : (some false) = some r := by rw [if_pos rfl] at H; exact H
   clear H
   have H := H1
   clear H1
   obtain rfl := Option.some.inj H
   go_enter Tryz.func102, Tryz.ntmps102
   go_wp2_with (first | ((with_reducible refine gc 118 ?_); refine gL (some 8) Tryz.func118 #[] ?_; (with_reducible refine (cardexref01_Banned.calls k  t369 _ A4.out).mono ?_); rintro e w7 ⟨v370, rfl, ho0, hb⟩; refine ⟨_, rfl, ?_⟩; have n_ := as2 (Kd.R_lower ho0 (below_size zz0)) (below_step zz0 hb); clear HB; obtain ⟨HO371, HB⟩ := n_; (try clear hb ho0); obtain ⟨Ao8, co8, eo8⟩ := Kd.R_slice HO371.out; subst eo8) | ((with_reducible refine gc 116 ?_); refine gL (some 10) Tryz.func116 #[.slice Ao8 t369.length co8, .int .i64 a1] ?_; (with_reducible refine (cardexref01_In.calls k _ _ t369 a1 true _ ?side1 ?side2 A5.out).mono ?_); (case side1 => exact (by repeat (first | exact (Kd.R_reads' HO371.out).2.2 | (with_reducible refine Kd.C_alloc ?_ _) | (with_reducible refine Kd.C_drewN ?_ _) | (with_reducible refine Kd.C_drew ?_)))); (case side2 => exact (Kd.R_reads' HO371.out).2.1); rintro e w' ⟨rfl, ⟨nd, rfl⟩⟩; refine ⟨_, rfl, ?_⟩))
   go_ret
   exact ⟨zz4, zz0⟩
  replace c6 := Bool.eq_false_iff.mpr c6
  subst c6
  have H1 : ((cardexhelp_In_int.f k (([32, 34, 38, 39, 47, 58, 60, 62, 64] : List Int)) a1).bind fun t376 => (some (!t376))) = some r := by rw [if_neg (show ¬ (false = true) by decide)] at H; exact H
  clear H
  have H := H1
  clear H1
  obtain ⟨y373, hy373⟩ : ∃ y_ : List Int, y_ = (([32, 34, 38, 39, 47, 58, 60, 62, 64] : List Int)) := ⟨_, rfl⟩
  replace H : ((cardexhelp_In_int.f k y373 a1).bind fun t376 => (some (!t376))) = some r := by first | (rw [hy373]; with_reducible exact H) | (have H2_ := (Option.bind_some _ _).symm.trans H; rw [hy373]; with_reducible exact H2_) | (have H2_ := (Option.bind_some _ _).symm.trans H; with_reducible exact H2_) | with_reducible exact H | (rw [hy373]; exact H) | exact H
  have Ny373 := Aside0.mk hy373
  clear hy373
  replace H := Option.bind_eq_some_iff.mp H
  obtain ⟨t376, A90, H⟩ := H
  try dsimp only at H
  have A9 := Aside0.mk A90
  clear A90
  obtain rfl := Option.some.inj H
  go_enter Tryz.func102, Tryz.ntmps102
  go_wp2_with (first | ((with_reducible refine gc 118 ?_); refine gL (some 8) Tryz.func118 #[] ?_; (with_reducible refine (cardexref01_Banned.calls k  t369 _ A4.out).mono ?_); rintro e w10 ⟨v370, rfl, ho0, hb⟩; refine ⟨_, rfl, ?_⟩; have n_ := as2 (Kd.R_lower ho0 (below_size zz0)) (below_step zz0 hb); clear HB; obtain ⟨HO371, HB⟩ := n_; (try clear hb ho0); obtain ⟨Ao11, co11, eo11⟩ := Kd.R_slice HO371.out; subst eo11) | ((with_reducible refine gc 116 ?_); refine gL (some 10) Tryz.func116 #[.slice Ao11 t369.length co11, .int .i64 a1] ?_; (with_reducible refine (cardexref01_In.calls k _ _ t369 a1 false _ ?side1 ?side2 A5.out).mono ?_); (case side1 => exact (by repeat (first | exact (Kd.R_reads' HO371.out).2.2 | (with_reducible refine Kd.C_alloc ?_ _) | (with_reducible refine Kd.C_drewN ?_ _) | (with_reducible refine Kd.C_drew ?_)))); (case side2 => exact (Kd.R_reads' HO371.out).2.1); rintro e w' ⟨rfl, ⟨nd, rfl⟩⟩; refine ⟨_, rfl, ?_⟩) | ((with_reducible refine gate_dst (N := 13) rfl ?_); (try (refine gate_guard (by rfl) ?_; dsimp only)); refine Kd.R_lit (Kd.int .i64) _ 3 ?hg (N := 13) ?hd (xs := ([32, 34, 38, 39, 47, 58, 60, 62, 64] : List Int)) (inner := [.int .i64 32, .int .i64 34, .int .i64 38, .int .i64 39, .int .i64 47, .int .i64 58, .int .i64 60, .int .i64 62, .int .i64 64]) (ok := fun _ => True) (okp := fun _ => True) ?hr ?hp (fun _ hk => hk) trivial (Below.refl _ _) (Nat.le_refl _) (by simp) ?_; (case hd => rfl); (case hg => rfl); (case hr => exact zz29); (case hp => exact (Reps.one (show Kd.M (Kd.int .i64) _ _ _ 32 [.int .i64 32] from rfl) (Reps.one (show Kd.M (Kd.int .i64) _ _ _ 34 [.int .i64 34] from rfl) (Reps.one (show Kd.M (Kd.int .i64) _ _ _ 38 [.int .i64 38] from rfl) (Reps.one (show Kd.M (Kd.int .i64) _ _ _ 39 [.int .i64 39] from rfl) (Reps.one (show Kd.M (Kd.int .i64) _ _ _ 47 [.int .i64 47] from rfl) (Reps.one (show Kd.M (Kd.int .i64) _ _ _ 58 [.int .i64 58] from rfl) (Reps.one (show Kd.M (Kd.int .i64) _ _ _ 60 [.int .i64 60] from rfl) (Reps.one (show Kd.M (Kd.int .i64) _ _ _ 62 [.int .i64 62] from rfl) (Reps.one (show Kd.M (Kd.int .i64) _ _ _ 64 [.int .i64 64] from rfl) (Reps.none _ _))))))))))); intro v374 w12 ho13 hb hg_ hnew_; clear hg_ hnew_; (first | rw [← Ny373.out] at ho13 | (simp only [Int.reduceToNat] at ho13; rw [← Ny373.out] at ho13)); have n_ := as3 (Kd.R_below (by (with_reducible repeat (first | apply Kd.R_alloc | apply Kd.R_drewN | apply Kd.R_drew)); exact HO371.out) hb) (Kd.R_lower ho13 (below_size zz0)) (below_step zz0 hb); clear HO371 HB; obtain ⟨HO371, HO375, HB⟩ := n_; clear hb ho13; obtain ⟨Ao14, co14, eo14⟩ := Kd.R_slice HO375.out; subst eo14) | (go_at_call 119; (with_reducible refine (cardexhelp_In_int.calls k _ _ y373 a1 t376 _ ?side1 ?side2 A9.out).mono ?_); (case side1 => exact (by repeat (first | exact (Kd.R_reads' HO375.out).2.2 | (with_reducible refine Kd.C_alloc ?_ _) | (with_reducible refine Kd.C_drewN ?_ _) | (with_reducible refine Kd.C_drew ?_)))); (case side2 => exact (Kd.R_reads' HO375.out).2.1); rintro e w' ⟨rfl, ⟨nd, rfl⟩⟩))
  go_ret
  exact ⟨zz4, zz0⟩
 rw [if_neg c3] at H
 obtain ⟨c3b0, c3b1⟩ := eqF c3
 by_cases c15 : a0 = 2
 ·rw [if_pos c15] at H
  obtain ⟨c15b0, c15b1⟩ := eqT c15
  clear c15
  by_cases c16 : a1 ≥ 48
  ·rw [if_pos c16] at H
   have c16b0 := decide_eq_true c16
   clear c16
   by_cases c17 : a1 ≤ 57
   ·rw [if_pos c17] at H
    have c17b0 := decide_eq_true c17
    clear c17
    obtain rfl := Option.some.inj H
    go_enter Tryz.func102, Tryz.ntmps102
    go_wp2
    go_ret
    exact ⟨zz4, zz0⟩
   rw [if_neg c17] at H
   have c17b0 := decide_eq_false c17
   clear c17
   by_cases c18 : a1 = 45
   ·rw [if_pos c18] at H
    obtain ⟨c18b0, c18b1⟩ := eqT c18
    clear c18
    obtain rfl := Option.some.inj H
    go_enter Tryz.func102, Tryz.ntmps102
    go_wp2
    go_ret
    exact ⟨zz4, zz0⟩
   rw [if_neg c18] at H
   obtain ⟨c18b0, c18b1⟩ := eqF c18
   by_cases c19 : a1 = 46
   ·rw [if_pos c19] at H
    obtain ⟨c19b0, c19b1⟩ := eqT c19
    clear c19
    obtain rfl := Option.some.inj H
    go_enter Tryz.func102, Tryz.ntmps102
    go_wp2
    go_ret
    exact ⟨zz4, zz0⟩
   rw [if_neg c19] at H
   obtain ⟨c19b0, c19b1⟩ := eqF c19
   replace H := Option.bind_eq_some_iff.mp H
   obtain ⟨t377, A200, H⟩ := H
   try dsimp only at H
   have A20 := Aside0.mk A200
   clear A200
   replace H := Option.bind_eq_some_iff.mp H
   obtain ⟨t380, A210, H⟩ := H
   try dsimp only at H
   have A21 := Aside0.mk A210
   clear A210
   by_cases c22 : t380 = true
   ·subst c22
    have H1 : (some true) = some r := by rw [if_pos rfl] at H; exact H
    clear H
    have H := H1
    clear H1
    obtain rfl := Option.some.inj H
    go_enter Tryz.func102, Tryz.ntmps102
    go_wp2_with (first | (go_at_call 120; (with_reducible refine (cardexref01_Letters.calls k  t377 _ A20.out).mono ?_); rintro e w23 ⟨v378, rfl, ho0, hb⟩; have n_ := as2 (Kd.R_lower ho0 (below_size zz0)) (below_step zz0 hb); clear HB; obtain ⟨HO379, HB⟩ := n_; (try clear hb ho0); obtain ⟨Ao24, co24, eo24⟩ := Kd.R_slice HO379.out; subst eo24) | (go_at_call 116; (with_reducible refine (cardexref01_In.calls k _ _ t377 a1 true _ ?side1 ?side2 A21.out).mono ?_); (case side1 => exact (by repeat (first | exact (Kd.R_reads' HO379.out).2.2 | (with_reducible refine Kd.C_alloc ?_ _) | (with_reducible refine Kd.C_drewN ?_ _) | (with_reducible refine Kd.C_drew ?_)))); (case side2 => exact (Kd.R_reads' HO379.out).2.1); rintro e w' ⟨rfl, ⟨nd, rfl⟩⟩))
    go_ret
    exact ⟨zz4, zz0⟩
   replace c22 := Bool.eq_false_iff.mpr c22
   subst c22
   have H1 : ((cardexref01_RightLeft.f k).bind fun t381 => ((cardexref01_In.f k t381 a1).bind fun t384 => (some t384))) = some r := by rw [if_neg (show ¬ (false = true) by decide)] at H; exact H
   clear H
   have H := H1
   clear H1
   replace H := Option.bind_eq_some_iff.mp H
   obtain ⟨t381, A250, H⟩ := H
   try dsimp only at H
   have A25 := Aside0.mk A250
   clear A250
   replace H := Option.bind_eq_some_iff.mp H
   obtain ⟨t384, A260, H⟩ := H
   try dsimp only at H
   have A26 := Aside0.mk A260
   clear A260
   obtain rfl := Option.some.inj H
   go_enter Tryz.func102, Tryz.ntmps102
   go_wp2_with (first | (go_at_call 120; (with_reducible refine (cardexref01_Letters.calls k  t377 _ A20.out).mono ?_); rintro e w27 ⟨v378, rfl, ho0, hb⟩; have n_ := as2 (Kd.R_lower ho0 (below_size zz0)) (below_step zz0 hb); clear HB; obtain ⟨HO379, HB⟩ := n_; (try clear hb ho0); obtain ⟨Ao28, co28, eo28⟩ := Kd.R_slice HO379.out; subst eo28) | (go_at_call 116; (with_reducible refine (cardexref01_In.calls k _ _ t377 a1 false _ ?side1 ?side2 A21.out).mono ?_); (case side1 => exact (by repeat (first | exact (Kd.R_reads' HO379.out).2.2 | (with_reducible refine Kd.C_alloc ?_ _) | (with_reducible refine Kd.C_drewN ?_ _) | (with_reducible refine Kd.C_drew ?_)))); (case side2 => exact (Kd.R_reads' HO379.out).2.1); rintro e w' ⟨rfl, ⟨nd, rfl⟩⟩) | (go_at_call 121; (with_reducible refine (cardexref01_RightLeft.calls k  t381 _ A25.out).mono ?_); rintro e w29 ⟨v382, rfl, ho0, hb⟩; have n_ := as3 (Kd.R_elder' (by (with_reducible repeat (first | apply Kd.R_alloc | apply Kd.R_drewN | apply Kd.R_drew)); exact HO379.out) (Kd.R_base ho0) hb) (Kd.R_lower (Kd.R_new' ho0 (Kd.R_lt (by (with_reducible repeat (first | apply Kd.R_alloc | apply Kd.R_drewN | apply Kd.R_drew)); exact HO379.out))) (below_size zz0)) (below_step zz0 hb); clear HO379 HB; obtain ⟨HO379, HO383, HB⟩ := n_; (try clear hb ho0); obtain ⟨Ao30, co30, eo30⟩ := Kd.R_slice HO383.out; subst eo30) | (go_at_call 116; (with_reducible refine (cardexref01_In.calls k _ _ t381 a1 t384 _ ?side1 ?side2 A26.out).mono ?_); (case side1 => exact (by repeat (first | exact (Kd.R_reads' HO383.out).2.2 | (with_reducible refine Kd.C_alloc ?_ _) | (with_reducible refine Kd.C_drewN ?_ _) | (with_reducible refine Kd.C_drew ?_)))); (case side2 => exact (Kd.R_reads' HO383.out).2.1); rintro e w' ⟨rfl, ⟨nd, rfl⟩⟩))
   go_ret
   exact ⟨zz4, zz0⟩
  rw [if_neg c16] at H
  have c16b0 := decide_eq_false c16
  clear c16
  by_cases c31 : a1 = 45
  ·rw [if_pos c31] at H
   obtain ⟨c31b0, c31b1⟩ := eqT c31
   clear c31
   obtain rfl := Option.some.inj H
   go_enter Tryz.func102, Tryz.ntmps102
   go_wp2
   go_ret
   exact ⟨zz4, zz0⟩
  rw [if_neg c31] at H
  obtain ⟨c31b0, c31b1⟩ := eqF c31
  by_cases c32 : a1 = 46
  ·rw [if_pos c32] at H
   obtain ⟨c32b0, c32b1⟩ := eqT c32
   clear c32
   obtain rfl := Option.some.inj H
   go_enter Tryz.func102, Tryz.ntmps102
   go_wp2
   go_ret
   exact ⟨zz4, zz0⟩
  rw [if_neg c32] at H
  obtain ⟨c32b0, c32b1⟩ := eqF c32
  replace H := Option.bind_eq_some_iff.mp H
  obtain ⟨t385, A330, H⟩ := H
  try dsimp only at H
  have A33 := Aside0.mk A330
  clear A330
  replace H := Option.bind_eq_some_iff.mp H
  obtain ⟨t388, A340, H⟩ := H
  try dsimp only at H
  have A34 := Aside0.mk A340
  clear A340
  by_cases c35 : t388 = true
  ·subst c35
   have H1 : (some true) = some r := by rw [if_pos rfl] at H; exact H
   clear H
   have H := H1
   clear H1
   obtain rfl := Option.some.inj H
   go_enter Tryz.func102, Tryz.ntmps102
   go_wp2_with (first | (go_at_call 120; (with_reducible refine (cardexref01_Letters.calls k  t385 _ A33.out).mono ?_); rintro e w36 ⟨v386, rfl, ho0, hb⟩; have n_ := as2 (Kd.R_lower ho0 (below_size zz0)) (below_step zz0 hb); clear HB; obtain ⟨HO387, HB⟩ := n_; (try clear hb ho0); obtain ⟨Ao37, co37, eo37⟩ := Kd.R_slice HO387.out; subst eo37) | (go_at_call 116; (with_reducible refine (cardexref01_In.calls k _ _ t385 a1 true _ ?side1 ?side2 A34.out).mono ?_); (case side1 => exact (by repeat (first | exact (Kd.R_reads' HO387.out).2.2 | (with_reducible refine Kd.C_alloc ?_ _) | (with_reducible refine Kd.C_drewN ?_ _) | (with_reducible refine Kd.C_drew ?_)))); (case side2 => exact (Kd.R_reads' HO387.out).2.1); rintro e w' ⟨rfl, ⟨nd, rfl⟩⟩))
   go_ret
   exact ⟨zz4, zz0⟩
  replace c35 := Bool.eq_false_iff.mpr c35
  subst c35
  have H1 : ((cardexref01_RightLeft.f k).bind fun t389 => ((cardexref01_In.f k t389 a1).bind fun t392 => (some t392))) = some r := by rw [if_neg (show ¬ (false = true) by decide)] at H; exact H
  clear H
  have H := H1
  clear H1
  replace H := Option.bind_eq_some_iff.mp H
  obtain ⟨t389, A380, H⟩ := H
  try dsimp only at H
  have A38 := Aside0.mk A380
  clear A380
  replace H := Option.bind_eq_some_iff.mp H
  obtain ⟨t392, A390, H⟩ := H
  try dsimp only at H
  have A39 := Aside0.mk A390
  clear A390
  obtain rfl := Option.some.inj H
  go_enter Tryz.func102, Tryz.ntmps102
  go_wp2_with (first | (go_at_call 120; (with_reducible refine (cardexref01_Letters.calls k  t385 _ A33.out).mono ?_); rintro e w40 ⟨v386, rfl, ho0, hb⟩; have n_ := as2 (Kd.R_lower ho0 (below_size zz0)) (below_step zz0 hb); clear HB; obtain ⟨HO387, HB⟩ := n_; (try clear hb ho0); obtain ⟨Ao41, co41, eo41⟩ := Kd.R_slice HO387.out; subst eo41) | (go_at_call 116; (with_reducible refine (cardexref01_In.calls k _ _ t385 a1 false _ ?side1 ?side2 A34.out).mono ?_); (case side1 => exact (by repeat (first | exact (Kd.R_reads' HO387.out).2.2 | (with_reducible refine Kd.C_alloc ?_ _) | (with_reducible refine Kd.C_drewN ?_ _) | (with_reducible refine Kd.C_drew ?_)))); (case side2 => exact (Kd.R_reads' HO387.out).2.1); rintro e w' ⟨rfl, ⟨nd, rfl⟩⟩) | (go_at_call 121; (with_reducible refine (cardexref01_RightLeft.calls k  t389 _ A38.out).mono ?_); rintro e w42 ⟨v390, rfl, ho0, hb⟩; have n_ := as3 (Kd.R_elder' (by (with_reducible repeat (first | apply Kd.R_alloc | apply Kd.R_drewN | apply Kd.R_drew)); exact HO387.out) (Kd.R_base ho0) hb) (Kd.R_lower (Kd.R_new' ho0 (Kd.R_lt (by (with_reducible repeat (first | apply Kd.R_alloc | apply Kd.R_drewN | apply Kd.R_drew)); exact HO387.out))) (below_size zz0)) (below_step zz0 hb); clear HO387 HB; obtain ⟨HO387, HO391, HB⟩ := n_; (try clear hb ho0); obtain ⟨Ao43, co43, eo43⟩ := Kd.R_slice HO391.out; subst eo43) | (go_at_call 116; (with_reducible refine (cardexref01_In.calls k _ _ t389 a1 t392 _ ?side1 ?side2 A39.out).mono ?_); (case side1 => exact (by repeat (first | exact (Kd.R_reads' HO391.out).2.2 | (with_reducible refine Kd.C_alloc ?_ _) | (with_reducible refine Kd.C_drewN ?_ _) | (with_reducible refine Kd.C_drew ?_)))); (case side2 => exact (Kd.R_reads' HO391.out).2.1); rintro e w' ⟨rfl, ⟨nd, rfl⟩⟩))
  go_ret
  exact ⟨zz4, zz0⟩
 rw [if_neg c15] at H
 obtain ⟨c15b0, c15b1⟩ := eqF c15
 replace H := Option.bind_eq_some_iff.mp H
 obtain ⟨t393, A440, H⟩ := H
 try dsimp only at H
 have A44 := Aside0.mk A440
 clear A440
 replace H := Option.bind_eq_some_iff.mp H
 obtain ⟨t396, A450, H⟩ := H
 try dsimp only at H
 have A45 := Aside0.mk A450
 clear A450
 obtain rfl := Option.some.inj H
 go_enter Tryz.func102, Tryz.ntmps102
 go_wp2_with (first | ((with_reducible refine gc 118 ?_); refine gL (some 44) Tryz.func118 #[] ?_; (with_reducible refine (cardexref01_Banned.calls k  t393 _ A44.out).mono ?_); rintro e w46 ⟨v394, rfl, ho0, hb⟩; refine ⟨_, rfl, ?_⟩; have n_ := as2 (Kd.R_lower ho0 (below_size zz0)) (below_step zz0 hb); clear HB; obtain ⟨HO395, HB⟩ := n_; (try clear hb ho0); obtain ⟨Ao47, co47, eo47⟩ := Kd.R_slice HO395.out; subst eo47) | ((with_reducible refine gc 116 ?_); refine gL (some 46) Tryz.func116 #[.slice Ao47 t393.length co47, .int .i64 a1] ?_; (with_reducible refine (cardexref01_In.calls k _ _ t393 a1 t396 _ ?side1 ?side2 A45.out).mono ?_); (case side1 => exact (by repeat (first | exact (Kd.R_reads' HO395.out).2.2 | (with_reducible refine Kd.C_alloc ?_ _) | (with_reducible refine Kd.C_drewN ?_ _) | (with_reducible refine Kd.C_drew ?_)))); (case side2 => exact (Kd.R_reads' HO395.out).2.1); rintro e w' ⟨rfl, ⟨nd, rfl⟩⟩; refine ⟨_, rfl, ?_⟩))
 go_ret
 exact ⟨zz4, zz0⟩
end Go.Proofs.YtaekklpphlcngaaGreatDoor.Q
