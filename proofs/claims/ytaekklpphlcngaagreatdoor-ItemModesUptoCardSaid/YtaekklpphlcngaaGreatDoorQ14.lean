-- Written by hookprint.py (wip/) of this session: the kit's print with hand-proved functions beside it. Not trusted: Lean checks it.
import Derived.Test.YtaekklpphlcngaaGreatDoorQ0
import Derived.Test.YtaekklpphlcngaaGreatDoorQ7
import Derived.Test.YtaekklpphlcngaaGreatDoorQ8
import Derived.Test.YtaekklpphlcngaaGreatDoorQ13
namespace Go.Proofs.YtaekklpphlcngaaGreatDoor.Q
open List (setIfInBounds_toArray set_cons_zero set_cons_succ)
open Go.RowKit Go.Lib Go.Proofs.YtaekklpphlcngaaGreatDoorX Go.Proofs.YtaekklpphlcngaaGreatDoorW.PrintWords Go.Proofs.YtaekklpphlcngaaGreatDoorW.PrintLast Go.Proofs.YtaekklpphlcngaaGreatDoorW.PrintMore
set_option linter.unusedVariables false
set_option linter.unusedSimpArgs false
mutual
def cardexref01_Parse.j0 : Nat → ByteArray → Bool → ByteArray → ByteArray → Bool → Option (ByteArray × ByteArray × ByteArray × Int)
 | 0, _, _, _, _, _ => none
 | k + 1, x5, x6, x7, x8, x9 => (cardexref01_Domain.f k x8).bind fun bt452 => (if bt452.2 = 0 then ((cardexref01_Node.f k x7).bind fun bt454 => (if bt454.2 = 0 then (if x9 = true then (if (bt454.1.size : Int) < 1 then (some ((⟨#[]⟩ : ByteArray), (⟨#[]⟩ : ByteArray), (⟨#[]⟩ : ByteArray), 14)) else (if (bt454.1.size : Int) > 64 then (some ((⟨#[]⟩ : ByteArray), (⟨#[]⟩ : ByteArray), (⟨#[]⟩ : ByteArray), 14)) else (cardexref01_Parse.j1 k x5 x6 bt452.1 bt454.1))) else (cardexref01_Parse.j1 k x5 x6 bt452.1 bt454.1)) else (some ((⟨#[]⟩ : ByteArray), (⟨#[]⟩ : ByteArray), (⟨#[]⟩ : ByteArray), bt454.2)))) else (some ((⟨#[]⟩ : ByteArray), (⟨#[]⟩ : ByteArray), (⟨#[]⟩ : ByteArray), bt452.2)))
def cardexref01_Parse.j1 : Nat → ByteArray → Bool → ByteArray → ByteArray → Option (ByteArray × ByteArray × ByteArray × Int)
 | 0, _, _, _, _ => none
 | k + 1, x5, x6, x10, x12 => (cardexref01_Resource.f k x5).bind fun bt456 => (if bt456.2 = 0 then (if x6 = true then (if (bt456.1.size : Int) < 1 then (some ((⟨#[]⟩ : ByteArray), (⟨#[]⟩ : ByteArray), (⟨#[]⟩ : ByteArray), 14)) else (if (bt456.1.size : Int) > 64 then (some ((⟨#[]⟩ : ByteArray), (⟨#[]⟩ : ByteArray), (⟨#[]⟩ : ByteArray), 14)) else (some (x12, x10, bt456.1, bt456.2)))) else (some (x12, x10, bt456.1, bt456.2))) else (some ((⟨#[]⟩ : ByteArray), (⟨#[]⟩ : ByteArray), (⟨#[]⟩ : ByteArray), bt456.2)))
end
def cardexref01_Parse.f (k : Nat) (a0 : ByteArray) : Option (ByteArray × ByteArray × ByteArray × Int) := (cardexref01_cut.f k a0 47).bind fun bt446 => ((cardexref01_cut.f k bt446.1 64).bind fun bt449 => (if bt449.2.2 = true then (cardexref01_Parse.j0 k bt446.2.1 bt446.2.2 bt449.1 bt449.2.1 bt449.2.2) else (cardexref01_Parse.j0 k bt446.2.1 bt446.2.2 (⟨#[]⟩ : ByteArray) bt446.1 bt449.2.2)))
set_option maxRecDepth 100000 in
theorem lf24 {P : Prop} (h : P := by
 go_wp2_with (first | ((with_reducible refine gc 57 ?_); refine gL (some 31) Tryz.func57 #[.string x8_3] ?_; (with_reducible refine (cardexref01_Domain.calls kj3 x8_3 t452 t453 _ A7.out).mono ?_); rintro e v0_ ⟨rfl, hb⟩; refine ⟨_, rfl, ?_⟩; have n_ := as2 (blk_below zz48 hb) (below_step zz33 hb); clear BK445 HB; obtain ⟨BK445, HB⟩ := n_; (try clear hb); obtain ⟨hcz445_0, hcz445_1, hcz445_2⟩ := cz3 BK445.out; obtain ⟨hfz445_0, hfz445_1, hfz445_2⟩ := fz3 BK445.out) | ((with_reducible refine gc 59 ?_); refine gL (some 63) Tryz.func59 #[.string t447] ?_; (with_reducible refine (cardexref01_Resource.calls kj9 t447 t456 t457 _ A20.out).mono ?_); rintro e v0_ ⟨rfl, hb⟩; refine ⟨_, rfl, ?_⟩; have n_ := as2 (blk_below zz48 hb) (below_step zz33 hb); clear BK445 HB; obtain ⟨BK445, HB⟩ := n_; (try clear hb); obtain ⟨hcz445_0, hcz445_1, hcz445_2⟩ := cz3 BK445.out; obtain ⟨hfz445_0, hfz445_1, hfz445_2⟩ := fz3 BK445.out))
 first
  | (go_meet; (case rel => exact ⟨_, (t449), (t450), zz1, zz1, H', ⟨zz57⟩, ⟨zz48⟩, ⟨zz33⟩⟩))
  | (go_meet; (case rel => exact ⟨_, ((⟨#[]⟩ : ByteArray)), (t446), zz1, zz1, H', ⟨zz57⟩, ⟨zz48⟩, ⟨zz33⟩⟩))
  | (refine bodyPost_ret (results_ct rfl _ _ gb445 62 #[.string (⟨#[]⟩ : ByteArray), .string (⟨#[]⟩ : ByteArray), .string (⟨#[]⟩ : ByteArray)] (0, 0) _ rfl (by (with_reducible repeat (first | refine blk_drewN ?_ _ | refine blk_drew ?_ | refine blk_alloc ?_ _)); refine blk_put (cs := #[.string (⟨#[]⟩ : ByteArray), .string (⟨#[]⟩ : ByteArray), .string (⟨#[]⟩ : ByteArray)]) ?_ 2 _ rfl; (with_reducible repeat (first | refine blk_drewN ?_ _ | refine blk_drew ?_ | refine blk_alloc ?_ _)); refine blk_put (cs := #[.string (⟨#[]⟩ : ByteArray), .string (⟨#[]⟩ : ByteArray), .string (⟨#[]⟩ : ByteArray)]) ?_ 1 _ rfl; (with_reducible repeat (first | refine blk_drewN ?_ _ | refine blk_drew ?_ | refine blk_alloc ?_ _)); refine blk_put (cs := #[.string (⟨#[]⟩ : ByteArray), .string (⟨#[]⟩ : ByteArray), .string (⟨#[]⟩ : ByteArray)]) ?_ 0 _ rfl; (with_reducible repeat (first | refine blk_drewN ?_ _ | refine blk_drew ?_ | refine blk_alloc ?_ _)); exact BK445.out) Tryz.underlying62 rfl zz34) rfl ?_; exact ⟨zz4, zz33⟩)
  | (go_meet; (case rel => exact ⟨_, ((⟨#[]⟩ : ByteArray)), ((⟨#[]⟩ : ByteArray)), ((⟨#[]⟩ : ByteArray)), H', ⟨by have := HJ3.out; first | omega | exact Nat.le_refl _⟩, ⟨zz48⟩, ⟨zz33⟩⟩))
  | (refine bodyPost_ret (results_ct rfl _ _ gb445 62 #[.string (⟨#[]⟩ : ByteArray), .string (⟨#[]⟩ : ByteArray), .string (⟨#[]⟩ : ByteArray)] (0, 0) _ rfl (by (with_reducible repeat (first | refine blk_drewN ?_ _ | refine blk_drew ?_ | refine blk_alloc ?_ _)); refine blk_put (cs := #[.string (⟨#[]⟩ : ByteArray), .string (⟨#[]⟩ : ByteArray), .string x446002_9]) ?_ 2 _ rfl; (with_reducible repeat (first | refine blk_drewN ?_ _ | refine blk_drew ?_ | refine blk_alloc ?_ _)); refine blk_put (cs := #[.string (⟨#[]⟩ : ByteArray), .string x446001_9, .string x446002_9]) ?_ 1 _ rfl; (with_reducible repeat (first | refine blk_drewN ?_ _ | refine blk_drew ?_ | refine blk_alloc ?_ _)); refine blk_put (cs := #[.string x446000_9, .string x446001_9, .string x446002_9]) ?_ 0 _ rfl; (with_reducible repeat (first | refine blk_drewN ?_ _ | refine blk_drew ?_ | refine blk_alloc ?_ _)); exact BK445.out) Tryz.underlying62 rfl zz34) rfl ?_; exact ⟨zz4, zz33⟩)
  | (refine bodyPost_ret (results_ct rfl _ _ gb445 62 #[.string t454, .string t452, .string t456] (0, 0) _ rfl (by (with_reducible repeat (first | refine blk_drewN ?_ _ | refine blk_drew ?_ | refine blk_alloc ?_ _)); refine blk_put (cs := #[.string t454, .string t452, .string x446002_9]) ?_ 2 _ rfl; (with_reducible repeat (first | refine blk_drewN ?_ _ | refine blk_drew ?_ | refine blk_alloc ?_ _)); refine blk_put (cs := #[.string t454, .string x446001_9, .string x446002_9]) ?_ 1 _ rfl; (with_reducible repeat (first | refine blk_drewN ?_ _ | refine blk_drew ?_ | refine blk_alloc ?_ _)); refine blk_put (cs := #[.string x446000_9, .string x446001_9, .string x446002_9]) ?_ 0 _ rfl; (with_reducible repeat (first | refine blk_drewN ?_ _ | refine blk_drew ?_ | refine blk_alloc ?_ _)); exact BK445.out) Tryz.underlying62 rfl zz34) rfl ?_; exact ⟨zz4, zz33⟩)) : P := h
set_option maxHeartbeats 8000000 in
set_option maxRecDepth 100000 in
theorem cardexref01_Parse.calls (k : Nat) (a0 : ByteArray) (r1 : ByteArray) (r2 : ByteArray) (r3 : ByteArray) (r4 : Int) (w : World) (h : cardexref01_Parse.f k a0 = some (r1, r2, r3, r4)) :
  Calls Tryz.prog 42 #[.string a0] w fun e w' => e = .returned (.tuple #[.agg #[.string r1, .string r2, .string r3], .int .i64 r4]) ∧ Below w.heap.size w w' := by
 have hu62 := Tryz.underlying62
 have HB := Aside0.mk (Below.refl w.heap.size w)
 have H : ((cardexref01_cut.f k a0 47).bind fun bt446 => ((cardexref01_cut.f k bt446.1 64).bind fun bt449 => (if bt449.2.2 = true then (cardexref01_Parse.j0 k bt446.2.1 bt446.2.2 bt449.1 bt449.2.1 bt449.2.2) else (cardexref01_Parse.j0 k bt446.2.1 bt446.2.2 (⟨#[]⟩ : ByteArray) bt446.1 bt449.2.2)))) = some (r1, r2, r3, r4) := h
 clear h
 replace H := Option.bind_eq_some_iff.mp H
 obtain ⟨⟨t446, t447, t448⟩, A20, H⟩ := H
 try dsimp only at H
 have A2 := Aside0.mk A20
 clear A20
 replace H := Option.bind_eq_some_iff.mp H
 obtain ⟨⟨t449, t450, t451⟩, A30, H⟩ := H
 try dsimp only at H
 have A3 := Aside0.mk A30
 clear A30
 have HC4 := Aside0.mk H
 clear H
 go_enter Tryz.func42, Tryz.ntmps42
 go_upto_if 27 with (first | ((with_reducible refine gate_dst (N := 2) rfl ?_); (try (refine gate_guard (by rfl) ?_; dsimp only)); refine box_event ?hg (N := 2) ?hd (cs := #[.string (⟨#[]⟩ : ByteArray), .string (⟨#[]⟩ : ByteArray), .string (⟨#[]⟩ : ByteArray)]) (t := 62) ?hr ?_; (case hd => rfl); (case hg => rfl); (case hr => exact zz29); intro gb445 hg w5 hbox hb; have n_ := as4 (below_step zz0 hb) hbox (gs w hg zz0) (gs w hg zz0); clear HB; obtain ⟨HB, BK445, GW445, GE445⟩ := n_; clear hb hbox hg) | ((with_reducible refine gc 56 ?_); refine gL (some 16) Tryz.func56 #[.string a0, .int .u8 47] ?_; (with_reducible refine (cardexref01_cut.calls k a0 47 t446 t447 t448 _ A2.out).mono ?_); rintro e w' ⟨rfl, ⟨nd, rfl⟩⟩; refine ⟨_, rfl, ?_⟩) | ((with_reducible refine gc 56 ?_); refine gL (some 22) Tryz.func56 #[.string t446, .int .u8 64] ?_; (with_reducible refine (cardexref01_cut.calls k t446 64 t449 t450 t451 _ A3.out).mono ?_); rintro e w' ⟨rfl, ⟨nd, rfl⟩⟩; refine ⟨_, rfl, ?_⟩))
 (try simp only [Act.put, setIfInBounds_toArray, set_cons_zero, set_cons_succ])
 go_cut [7, 8] (fun v7 v8 wc => ∃ (kq : Nat) (x7_3 : ByteArray) (x8_3 : ByteArray), v7 = .string x7_3 ∧ v8 = .string x8_3 ∧ Aside0 (cardexref01_Parse.j0 kq t447 t448 x7_3 x8_3 t451 = some (r1, r2, r3, r4)) ∧ Aside0 (kq ≤ k) ∧ Aside0 (wc.heap[gb445]? = some (.cells #[.string (⟨#[]⟩ : ByteArray), .string (⟨#[]⟩ : ByteArray), .string (⟨#[]⟩ : ByteArray)] 62 (0, 0))) ∧ Aside0 (Below w.heap.size w wc))
 case first =>
  have H := HC4.out
  clear HC4
  by_cases c6 : t451 = true
  ·subst c6
   have H1 : (cardexref01_Parse.j0 k t447 t448 t449 t450 true) = some (r1, r2, r3, r4) := by rw [if_pos rfl] at H; exact H
   clear H
   have H := H1
   clear H1
   have H' := Aside0.mk H
   clear H
   exact lf24
  replace c6 := Bool.eq_false_iff.mpr c6
  subst c6
  have H1 : (cardexref01_Parse.j0 k t447 t448 (⟨#[]⟩ : ByteArray) t446 false) = some (r1, r2, r3, r4) := by rw [if_neg (show ¬ (false = true) by decide)] at H; exact H
  clear H
  have H := H1
  clear H1
  have H' := Aside0.mk H
  clear H
  exact lf24
 case rest =>
  clear HC4
  try clear p2
  try clear c4
  try clear c5
  try clear c6
  obtain ⟨kq, x7_3, x8_3, rfl, rfl, HA, HJ3, BK445, HB⟩ := hcut
  cases kq with
  | zero => exact absurd HA.out (by simp [cardexref01_Parse.j0])
  | succ kj3 =>
   have H := HA.out
   clear HA
   simp only [cardexref01_Parse.j0] at H
   replace H := Option.bind_eq_some_iff.mp H
   obtain ⟨⟨t452, t453⟩, A70, H⟩ := H
   try dsimp only at H
   have A7 := Aside0.mk A70
   clear A70
   by_cases c8 : t453 = 0
   ·rw [if_pos c8] at H
    obtain ⟨c8b0, c8b1⟩ := eqT c8
    clear c8
    replace H := Option.bind_eq_some_iff.mp H
    obtain ⟨⟨t454, t455⟩, A90, H⟩ := H
    try dsimp only at H
    have A9 := Aside0.mk A90
    clear A90
    have HC10 := Aside0.mk H
    clear H
    go_upto_block 0 with (first | ((with_reducible refine gc 57 ?_); refine gL (some 31) Tryz.func57 #[.string x8_3] ?_; (with_reducible refine (cardexref01_Domain.calls kj3 x8_3 t452 t453 _ A7.out).mono ?_); rintro e w11 ⟨rfl, hb⟩; refine ⟨_, rfl, ?_⟩; have n_ := as2 (blk_below zz48 hb) (below_step zz33 hb); clear BK445 HB; obtain ⟨BK445, HB⟩ := n_; (try clear hb)) | ((with_reducible refine gc 58 ?_); refine gL (some 40) Tryz.func58 #[.string x7_3] ?_; (with_reducible refine (cardexref01_Node.calls kj3 x7_3 t454 t455 _ A9.out).mono ?_); rintro e w12 ⟨rfl, hb⟩; refine ⟨_, rfl, ?_⟩; have n_ := as2 (blk_below zz48 hb) (below_step zz33 hb); clear BK445 HB; obtain ⟨BK445, HB⟩ := n_; (try clear hb)))
    (try simp only [Act.put, setIfInBounds_toArray, set_cons_zero, set_cons_succ])
    go_cut [] (fun wc => ∃ (kq : Nat) (x446000_9 : ByteArray) (x446001_9 : ByteArray) (x446002_9 : ByteArray), Aside0 (cardexref01_Parse.j1 kq t447 t448 t452 t454 = some (r1, r2, r3, r4)) ∧ Aside0 (kq ≤ kj3) ∧ Aside0 (wc.heap[gb445]? = some (.cells #[.string x446000_9, .string x446001_9, .string x446002_9] 62 (0, 0))) ∧ Aside0 (Below w.heap.size w wc))
    case first =>
     have H := HC10.out
     clear HC10
     by_cases c13 : t455 = 0
     ·rw [if_pos c13] at H
      obtain ⟨c13b0, c13b1⟩ := eqT c13
      clear c13
      (first | rw [c13b0] | (simp only [i64_w, i32_w]; rw [c13b0]) | skip)
      by_cases c14 : t451 = true
      ·subst c14
       have H1 : (if (t454.size : Int) < 1 then (some ((⟨#[]⟩ : ByteArray), (⟨#[]⟩ : ByteArray), (⟨#[]⟩ : ByteArray), 14)) else (if (t454.size : Int) > 64 then (some ((⟨#[]⟩ : ByteArray), (⟨#[]⟩ : ByteArray), (⟨#[]⟩ : ByteArray), 14)) else (cardexref01_Parse.j1 kj3 t447 t448 t452 t454))) = some (r1, r2, r3, r4) := by rw [if_pos rfl] at H; exact H
       clear H
       have H := H1
       clear H1
       by_cases c15 : (t454.size : Int) < 1
       ·rw [if_pos c15] at H
        have c15b0 := decide_eq_true c15
        have c15b1 : decide (t454.size < 1) = true := decide_eq_true (by omega)
        clear c15
        simp only [Option.some.injEq, Prod.mk.injEq] at H
        obtain ⟨rfl, rfl, rfl, rfl⟩ := H
        obtain ⟨hcz16_0, hcz16_1, hcz16_2⟩ := cz3 BK445.out
        obtain ⟨hfz16_0, hfz16_1, hfz16_2⟩ := fz3 BK445.out
        exact lf24
       rw [if_neg c15] at H
       have c15b0 := decide_eq_false c15
       have c15b1 : decide (t454.size < 1) = false := decide_eq_false (by omega)
       clear c15
       by_cases c17 : (t454.size : Int) > 64
       ·rw [if_pos c17] at H
        have c17b0 := decide_eq_true c17
        have c17b1 : decide (64 < t454.size) = true := decide_eq_true (by omega)
        clear c17
        simp only [Option.some.injEq, Prod.mk.injEq] at H
        obtain ⟨rfl, rfl, rfl, rfl⟩ := H
        obtain ⟨hcz18_0, hcz18_1, hcz18_2⟩ := cz3 BK445.out
        obtain ⟨hfz18_0, hfz18_1, hfz18_2⟩ := fz3 BK445.out
        exact lf24
       rw [if_neg c17] at H
       have c17b0 := decide_eq_false c17
       have c17b1 : decide (64 < t454.size) = false := decide_eq_false (by omega)
       clear c17
       have H' := Aside0.mk H
       clear H
       exact lf24
      replace c14 := Bool.eq_false_iff.mpr c14
      subst c14
      have H1 : (cardexref01_Parse.j1 kj3 t447 t448 t452 t454) = some (r1, r2, r3, r4) := by rw [if_neg (show ¬ (false = true) by decide)] at H; exact H
      clear H
      have H := H1
      clear H1
      have H' := Aside0.mk H
      clear H
      exact lf24
     rw [if_neg c13] at H
     obtain ⟨c13b0, c13b1⟩ := eqF c13
     (first | rw [c13b0] | (simp only [i64_w, i32_w]; rw [c13b0]) | skip)
     simp only [Option.some.injEq, Prod.mk.injEq] at H
     obtain ⟨rfl, rfl, rfl, rfl⟩ := H
     obtain ⟨hcz19_0, hcz19_1, hcz19_2⟩ := cz3 BK445.out
     obtain ⟨hfz19_0, hfz19_1, hfz19_2⟩ := fz3 BK445.out
     exact lf24
    case rest =>
     clear HC10
     try clear c1
     try clear p2
     try clear c4
     try clear c5
     try clear c6
     try clear c8
     try clear c8b0
     try clear c8b1
     try clear c13
     try clear c13b0
     try clear c13b1
     try clear c14
     try clear c15
     try clear c15b0
     try clear c15b1
     try clear c17
     try clear c17b0
     try clear c17b1
     try clear hcz16_0
     try clear hcz16_1
     try clear hcz16_2
     try clear hcz18_0
     try clear hcz18_1
     try clear hcz18_2
     try clear hcz19_0
     try clear hcz19_1
     try clear hcz19_2
     try clear hfz16_0
     try clear hfz16_1
     try clear hfz16_2
     try clear hfz18_0
     try clear hfz18_1
     try clear hfz18_2
     try clear hfz19_0
     try clear hfz19_1
     try clear hfz19_2
     try clear p2
     obtain ⟨kq, x446000_9, x446001_9, x446002_9, HA, HJ9, BK445, HB⟩ := hcut
     cases kq with
     | zero => exact absurd HA.out (by simp [cardexref01_Parse.j1])
     | succ kj9 =>
      have H := HA.out
      clear HA
      simp only [cardexref01_Parse.j1] at H
      replace H := Option.bind_eq_some_iff.mp H
      obtain ⟨⟨t456, t457⟩, A200, H⟩ := H
      try dsimp only at H
      have A20 := Aside0.mk A200
      clear A200
      by_cases c21 : t457 = 0
      ·rw [if_pos c21] at H
       obtain ⟨c21b0, c21b1⟩ := eqT c21
       clear c21
       by_cases c22 : t448 = true
       ·subst c22
        have H1 : (if (t456.size : Int) < 1 then (some ((⟨#[]⟩ : ByteArray), (⟨#[]⟩ : ByteArray), (⟨#[]⟩ : ByteArray), 14)) else (if (t456.size : Int) > 64 then (some ((⟨#[]⟩ : ByteArray), (⟨#[]⟩ : ByteArray), (⟨#[]⟩ : ByteArray), 14)) else (some (t454, t452, t456, t457)))) = some (r1, r2, r3, r4) := by rw [if_pos rfl] at H; exact H
        clear H
        have H := H1
        clear H1
        by_cases c23 : (t456.size : Int) < 1
        ·rw [if_pos c23] at H
         have c23b0 := decide_eq_true c23
         have c23b1 : decide (t456.size < 1) = true := decide_eq_true (by omega)
         clear c23
         simp only [Option.some.injEq, Prod.mk.injEq] at H
         obtain ⟨rfl, rfl, rfl, rfl⟩ := H
         exact lf24
        rw [if_neg c23] at H
        have c23b0 := decide_eq_false c23
        have c23b1 : decide (t456.size < 1) = false := decide_eq_false (by omega)
        clear c23
        by_cases c26 : (t456.size : Int) > 64
        ·rw [if_pos c26] at H
         have c26b0 := decide_eq_true c26
         have c26b1 : decide (64 < t456.size) = true := decide_eq_true (by omega)
         clear c26
         simp only [Option.some.injEq, Prod.mk.injEq] at H
         obtain ⟨rfl, rfl, rfl, rfl⟩ := H
         exact lf24
        rw [if_neg c26] at H
        have c26b0 := decide_eq_false c26
        have c26b1 : decide (64 < t456.size) = false := decide_eq_false (by omega)
        clear c26
        simp only [Option.some.injEq, Prod.mk.injEq] at H
        obtain ⟨rfl, rfl, rfl, rfl⟩ := H
        exact lf24
       replace c22 := Bool.eq_false_iff.mpr c22
       subst c22
       have H1 : (some (t454, t452, t456, t457)) = some (r1, r2, r3, r4) := by rw [if_neg (show ¬ (false = true) by decide)] at H; exact H
       clear H
       have H := H1
       clear H1
       simp only [Option.some.injEq, Prod.mk.injEq] at H
       obtain ⟨rfl, rfl, rfl, rfl⟩ := H
       exact lf24
      rw [if_neg c21] at H
      obtain ⟨c21b0, c21b1⟩ := eqF c21
      simp only [Option.some.injEq, Prod.mk.injEq] at H
      obtain ⟨rfl, rfl, rfl, rfl⟩ := H
      exact lf24
   rw [if_neg c8] at H
   obtain ⟨c8b0, c8b1⟩ := eqF c8
   simp only [Option.some.injEq, Prod.mk.injEq] at H
   obtain ⟨rfl, rfl, rfl, rfl⟩ := H
   exact lf24
def cardexref01_JidText.f (a0_0 : ByteArray) (a0_1 : ByteArray) (a0_2 : ByteArray) : Option (ByteArray) := if a0_0.toList = ([] : List UInt8) then (if a0_2.toList = ([] : List UInt8) then (some a0_1) else (if a0_1.size + 1 ≤ 9223372036854775807 then (if (a0_1 ++ (⟨#[47]⟩ : ByteArray)).size + a0_2.size ≤ 9223372036854775807 then (some ((a0_1 ++ (⟨#[47]⟩ : ByteArray)) ++ a0_2)) else (none)) else (none))) else (if a0_0.size + 1 ≤ 9223372036854775807 then (if (a0_0 ++ (⟨#[64]⟩ : ByteArray)).size + a0_1.size ≤ 9223372036854775807 then (if a0_2.toList = ([] : List UInt8) then (some ((a0_0 ++ (⟨#[64]⟩ : ByteArray)) ++ a0_1)) else (if ((a0_0 ++ (⟨#[64]⟩ : ByteArray)) ++ a0_1).size + 1 ≤ 9223372036854775807 then (if (((a0_0 ++ (⟨#[64]⟩ : ByteArray)) ++ a0_1) ++ (⟨#[47]⟩ : ByteArray)).size + a0_2.size ≤ 9223372036854775807 then (some ((((a0_0 ++ (⟨#[64]⟩ : ByteArray)) ++ a0_1) ++ (⟨#[47]⟩ : ByteArray)) ++ a0_2)) else (none)) else (none))) else (none)) else (none))
theorem lf25 {P : Prop} (h : P := by
 go_enter Tryz.func43, Tryz.ntmps43
 go_wp2_with (first | ((with_reducible refine gd 1 ?_); refine bz #[.string a0_0, .string a0_1, .string a0_2] 62 ?_; intro gb458 hg v0_ hbox hb; have n_ := as4 (below_step zz0 hb) hbox (gs w hg zz0) (gs w hg zz0); clear HB; obtain ⟨HB, BK458, GW458, GE458⟩ := n_; clear hb hbox hg; obtain ⟨hcz458_0, hcz458_1, hcz458_2⟩ := cz3 BK458.out; obtain ⟨hfz458_0, hfz458_1, hfz458_2⟩ := fz3 BK458.out))
 go_ret; exact ⟨zz4, by repeat (first | (with_reducible first | exact HB.out | apply below_alloc | apply pw_below_drewN | apply below_drew1 | refine below_set ?_ GE458.out) | exact HB.out)⟩) : P := h
set_option maxHeartbeats 8000000 in
set_option maxRecDepth 100000 in
theorem cardexref01_JidText.calls (a0_0 : ByteArray) (a0_1 : ByteArray) (a0_2 : ByteArray) (r : ByteArray) (w : World) (h : cardexref01_JidText.f a0_0 a0_1 a0_2 = some r) :
  Calls Tryz.prog 43 #[.agg #[.string a0_0, .string a0_1, .string a0_2]] w fun e w' => e = .returned (.string r) ∧ Below w.heap.size w w' := by
 have hu62 := Tryz.underlying62
 have HB := Aside0.mk (Below.refl w.heap.size w)
 have H : (if a0_0.toList = ([] : List UInt8) then (if a0_2.toList = ([] : List UInt8) then (some a0_1) else (if a0_1.size + 1 ≤ 9223372036854775807 then (if (a0_1 ++ (⟨#[47]⟩ : ByteArray)).size + a0_2.size ≤ 9223372036854775807 then (some ((a0_1 ++ (⟨#[47]⟩ : ByteArray)) ++ a0_2)) else (none)) else (none))) else (if a0_0.size + 1 ≤ 9223372036854775807 then (if (a0_0 ++ (⟨#[64]⟩ : ByteArray)).size + a0_1.size ≤ 9223372036854775807 then (if a0_2.toList = ([] : List UInt8) then (some ((a0_0 ++ (⟨#[64]⟩ : ByteArray)) ++ a0_1)) else (if ((a0_0 ++ (⟨#[64]⟩ : ByteArray)) ++ a0_1).size + 1 ≤ 9223372036854775807 then (if (((a0_0 ++ (⟨#[64]⟩ : ByteArray)) ++ a0_1) ++ (⟨#[47]⟩ : ByteArray)).size + a0_2.size ≤ 9223372036854775807 then (some ((((a0_0 ++ (⟨#[64]⟩ : ByteArray)) ++ a0_1) ++ (⟨#[47]⟩ : ByteArray)) ++ a0_2)) else (none)) else (none))) else (none)) else (none))) = some r := h
 clear h
 by_cases c2 : a0_0.toList = ([] : List UInt8)
 ·rw [if_pos c2] at H
  obtain ⟨c2b0, c2b1⟩ := eqT c2
  clear c2
  by_cases c3 : a0_2.toList = ([] : List UInt8)
  ·rw [if_pos c3] at H
   obtain ⟨c3b0, c3b1⟩ := eqT c3
   clear c3
   obtain rfl := Option.some.inj H
   exact lf25
  rw [if_neg c3] at H
  obtain ⟨c3b0, c3b1⟩ := eqF c3
  by_cases c6 : a0_1.size + 1 ≤ 9223372036854775807
  ·rw [if_pos c6] at H
   have c6b0 := eq_true c6
   have c6b1 : decide (a0_1.size + 1 ≤ 9223372036854775807) = true := decide_eq_true c6
   try have c6b2 : (9223372036854775807 < a0_1.size + 1) = False := eq_false (Nat.not_lt.2 c6)
   by_cases c7 : (a0_1 ++ (⟨#[47]⟩ : ByteArray)).size + a0_2.size ≤ 9223372036854775807
   ·rw [if_pos c7] at H
    have c7b0 := eq_true c7
    have c7b1 : decide ((a0_1 ++ (⟨#[47]⟩ : ByteArray)).size + a0_2.size ≤ 9223372036854775807) = true := decide_eq_true c7
    try have c7b2 : (9223372036854775807 < (a0_1 ++ (⟨#[47]⟩ : ByteArray)).size + a0_2.size) = False := eq_false (Nat.not_lt.2 c7)
    try have c7b3 : (9223372036854775807 < a0_1.size + 1 + a0_2.size) = False := eq_false (Nat.not_lt.2 (by have h_ := c7; simp only [ByteArray.size_append] at h_; exact h_))
    obtain rfl := Option.some.inj H
    exact lf25
   rw [if_neg c7] at H
   exact absurd H (by simp)
  rw [if_neg c6] at H
  exact absurd H (by simp)
 rw [if_neg c2] at H
 obtain ⟨c2b0, c2b1⟩ := eqF c2
 by_cases c10 : a0_0.size + 1 ≤ 9223372036854775807
 ·rw [if_pos c10] at H
  have c10b0 := eq_true c10
  have c10b1 : decide (a0_0.size + 1 ≤ 9223372036854775807) = true := decide_eq_true c10
  try have c10b2 : (9223372036854775807 < a0_0.size + 1) = False := eq_false (Nat.not_lt.2 c10)
  by_cases c11 : (a0_0 ++ (⟨#[64]⟩ : ByteArray)).size + a0_1.size ≤ 9223372036854775807
  ·rw [if_pos c11] at H
   have c11b0 := eq_true c11
   have c11b1 : decide ((a0_0 ++ (⟨#[64]⟩ : ByteArray)).size + a0_1.size ≤ 9223372036854775807) = true := decide_eq_true c11
   try have c11b2 : (9223372036854775807 < (a0_0 ++ (⟨#[64]⟩ : ByteArray)).size + a0_1.size) = False := eq_false (Nat.not_lt.2 c11)
   try have c11b3 : (9223372036854775807 < a0_0.size + 1 + a0_1.size) = False := eq_false (Nat.not_lt.2 (by have h_ := c11; simp only [ByteArray.size_append] at h_; exact h_))
   by_cases c12 : a0_2.toList = ([] : List UInt8)
   ·rw [if_pos c12] at H
    obtain ⟨c12b0, c12b1⟩ := eqT c12
    clear c12
    obtain rfl := Option.some.inj H
    exact lf25
   rw [if_neg c12] at H
   obtain ⟨c12b0, c12b1⟩ := eqF c12
   by_cases c15 : ((a0_0 ++ (⟨#[64]⟩ : ByteArray)) ++ a0_1).size + 1 ≤ 9223372036854775807
   ·rw [if_pos c15] at H
    have c15b0 := eq_true c15
    have c15b1 : decide (((a0_0 ++ (⟨#[64]⟩ : ByteArray)) ++ a0_1).size + 1 ≤ 9223372036854775807) = true := decide_eq_true c15
    try have c15b2 : (9223372036854775807 < ((a0_0 ++ (⟨#[64]⟩ : ByteArray)) ++ a0_1).size + 1) = False := eq_false (Nat.not_lt.2 c15)
    try have c15b3 : (9223372036854775807 < a0_0.size + 1 + a0_1.size + 1) = False := eq_false (Nat.not_lt.2 (by have h_ := c15; simp only [ByteArray.size_append] at h_; exact h_))
    by_cases c16 : (((a0_0 ++ (⟨#[64]⟩ : ByteArray)) ++ a0_1) ++ (⟨#[47]⟩ : ByteArray)).size + a0_2.size ≤ 9223372036854775807
    ·rw [if_pos c16] at H
     have c16b0 := eq_true c16
     have c16b1 : decide ((((a0_0 ++ (⟨#[64]⟩ : ByteArray)) ++ a0_1) ++ (⟨#[47]⟩ : ByteArray)).size + a0_2.size ≤ 9223372036854775807) = true := decide_eq_true c16
     try have c16b2 : (9223372036854775807 < (((a0_0 ++ (⟨#[64]⟩ : ByteArray)) ++ a0_1) ++ (⟨#[47]⟩ : ByteArray)).size + a0_2.size) = False := eq_false (Nat.not_lt.2 c16)
     try have c16b3 : (9223372036854775807 < a0_0.size + 1 + a0_1.size + 1 + a0_2.size) = False := eq_false (Nat.not_lt.2 (by have h_ := c16; simp only [ByteArray.size_append] at h_; exact h_))
     obtain rfl := Option.some.inj H
     exact lf25
    rw [if_neg c16] at H
    exact absurd H (by simp)
   rw [if_neg c15] at H
   exact absurd H (by simp)
  rw [if_neg c11] at H
  exact absurd H (by simp)
 rw [if_neg c10] at H
 exact absurd H (by simp)
def cardexref01_Bare.j0 : Nat → Int → Bool → ByteArray → ByteArray → ByteArray → Option (ByteArray × Int)
 | 0, _, _, _, _, _ => none
 | k + 1, x5, x17, x464000, x464001, x464002 => if x17 = true then (some ((⟨#[]⟩ : ByteArray), 14)) else (if x5 = 0 then ((cardexref01_JidText.f x464000 x464001 x464002).bind fun t464 => (some (t464, x5))) else (some ((⟨#[]⟩ : ByteArray), x5)))
def cardexref01_Bare.f (k : Nat) (a0 : ByteArray) : Option (ByteArray × Int) := (cardexref01_Parse.f k a0).bind fun bt459 => (if bt459.2.2.2 = 0 then (cardexref01_Bare.j0 k bt459.2.2.2 (bt459.2.2.1.toList != ([] : List UInt8)) bt459.1 bt459.2.1 bt459.2.2.1) else (cardexref01_Bare.j0 k bt459.2.2.2 false bt459.1 bt459.2.1 bt459.2.2.1))
set_option maxRecDepth 100000 in
theorem lf26 {P : Prop} (h : P := by
 go_wp2_with (first | ((with_reducible refine gc 43 ?_); refine gL (some 22) Tryz.func43 #[.agg #[.string t459, .string t460, .string t461]] ?_; (with_reducible refine (cardexref01_JidText.calls t459 t460 t461 t464 _ A11.out).mono ?_); rintro e v0_ ⟨rfl, hb⟩; refine ⟨_, rfl, ?_⟩; have n_ := as2 (blk_below (by (with_reducible repeat (first | refine blk_drewN ?_ _ | refine blk_drew ?_ | refine blk_alloc ?_ _)); exact BK463.out) hb) (below_step zz53 hb); clear BK463 HB; obtain ⟨BK463, HB⟩ := n_; (try clear hb)))
 first
  | (go_meet; (case rel => exact ⟨_, ((t461.toList != ([] : List UInt8))), zz1, H', ⟨zz57⟩, ⟨by (with_reducible repeat (first | refine blk_drewN ?_ _ | refine blk_drew ?_ | refine blk_alloc ?_ _)); refine blk_put (cs := #[.string t459, .string t460, .string (⟨#[]⟩ : ByteArray)]) ?_ 2 _ rfl; (with_reducible repeat (first | refine blk_drewN ?_ _ | refine blk_drew ?_ | refine blk_alloc ?_ _)); refine blk_put (cs := #[.string t459, .string (⟨#[]⟩ : ByteArray), .string (⟨#[]⟩ : ByteArray)]) ?_ 1 _ rfl; (with_reducible repeat (first | refine blk_drewN ?_ _ | refine blk_drew ?_ | refine blk_alloc ?_ _)); refine blk_put (cs := #[.string (⟨#[]⟩ : ByteArray), .string (⟨#[]⟩ : ByteArray), .string (⟨#[]⟩ : ByteArray)]) ?_ 0 _ rfl; (with_reducible repeat (first | refine blk_drewN ?_ _ | refine blk_drew ?_ | refine blk_alloc ?_ _)); exact BK463.out⟩, ⟨zz53⟩⟩))
  | (go_meet; (case rel => exact ⟨_, (false), zz1, H', ⟨zz57⟩, ⟨by (with_reducible repeat (first | refine blk_drewN ?_ _ | refine blk_drew ?_ | refine blk_alloc ?_ _)); refine blk_put (cs := #[.string t459, .string t460, .string (⟨#[]⟩ : ByteArray)]) ?_ 2 _ rfl; (with_reducible repeat (first | refine blk_drewN ?_ _ | refine blk_drew ?_ | refine blk_alloc ?_ _)); refine blk_put (cs := #[.string t459, .string (⟨#[]⟩ : ByteArray), .string (⟨#[]⟩ : ByteArray)]) ?_ 1 _ rfl; (with_reducible repeat (first | refine blk_drewN ?_ _ | refine blk_drew ?_ | refine blk_alloc ?_ _)); refine blk_put (cs := #[.string (⟨#[]⟩ : ByteArray), .string (⟨#[]⟩ : ByteArray), .string (⟨#[]⟩ : ByteArray)]) ?_ 0 _ rfl; (with_reducible repeat (first | refine blk_drewN ?_ _ | refine blk_drew ?_ | refine blk_alloc ?_ _)); exact BK463.out⟩, ⟨zz53⟩⟩))
  | (go_ret2; exact ⟨zz4, zz53⟩)) : P := h
set_option maxHeartbeats 8000000 in
set_option maxRecDepth 100000 in
theorem cardexref01_Bare.calls (k : Nat) (a0 : ByteArray) (r1 : ByteArray) (r2 : Int) (w : World) (h : cardexref01_Bare.f k a0 = some (r1, r2)) :
  Calls Tryz.prog 31 #[.string a0] w fun e w' => e = .returned (.tuple #[.string r1, .int .i64 r2]) ∧ Below w.heap.size w w' := by
 have hu62 := Tryz.underlying62
 have HB := Aside0.mk (Below.refl w.heap.size w)
 have H : ((cardexref01_Parse.f k a0).bind fun bt459 => (if bt459.2.2.2 = 0 then (cardexref01_Bare.j0 k bt459.2.2.2 (bt459.2.2.1.toList != ([] : List UInt8)) bt459.1 bt459.2.1 bt459.2.2.1) else (cardexref01_Bare.j0 k bt459.2.2.2 false bt459.1 bt459.2.1 bt459.2.2.1))) = some (r1, r2) := h
 clear h
 replace H := Option.bind_eq_some_iff.mp H
 obtain ⟨⟨t459, t460, t461, t462⟩, A20, H⟩ := H
 try dsimp only at H
 have A2 := Aside0.mk A20
 clear A20
 have HC3 := Aside0.mk H
 clear H
 go_enter Tryz.func31, Tryz.ntmps31
 go_upto_region 2 with (first | ((with_reducible refine gc 42 ?_); refine gL (some 8) Tryz.func42 #[.string a0] ?_; (with_reducible refine (cardexref01_Parse.calls k a0 t459 t460 t461 t462 _ A2.out).mono ?_); rintro e w4 ⟨rfl, hb⟩; refine ⟨_, rfl, ?_⟩; replace HB := Aside0.mk (below_step zz0 hb); (try clear hb)) | ((with_reducible refine gd 4 ?_); refine bz #[.string (⟨#[]⟩ : ByteArray), .string (⟨#[]⟩ : ByteArray), .string (⟨#[]⟩ : ByteArray)] 62 ?_; intro gb463 hg w5 hbox hb; have n_ := as4 (below_step zz0 hb) hbox (gs w hg zz0) (gs w hg zz0); clear HB; obtain ⟨HB, BK463, GW463, GE463⟩ := n_; clear hb hbox hg; obtain ⟨hcz6_0, hcz6_1, hcz6_2⟩ := cz3 BK463.out; obtain ⟨hfz6_0, hfz6_1, hfz6_2⟩ := fz3 BK463.out))
 (try simp only [Act.put, setIfInBounds_toArray, set_cons_zero, set_cons_succ])
 go_cut [17] (fun v17 wc => ∃ (kq : Nat) (x17_2 : Bool), v17 = .bool x17_2 ∧ Aside0 (cardexref01_Bare.j0 kq t462 x17_2 t459 t460 t461 = some (r1, r2)) ∧ Aside0 (kq ≤ k) ∧ Aside0 (wc.heap[gb463]? = some (.cells #[.string t459, .string t460, .string t461] 62 (0, 0))) ∧ Aside0 (Below w.heap.size w wc))
 case first =>
  have H := HC3.out
  clear HC3
  by_cases c7 : t462 = 0
  ·rw [if_pos c7] at H
   obtain ⟨c7b0, c7b1⟩ := eqT c7
   clear c7
   (first | rw [c7b0] | (simp only [i64_w, i32_w]; rw [c7b0]) | skip)
   have H' := Aside0.mk H
   clear H
   obtain ⟨hcz8_0, hcz8_1, hcz8_2⟩ := cz3 BK463.out
   obtain ⟨hfz8_0, hfz8_1, hfz8_2⟩ := fz3 BK463.out
   exact lf26
  rw [if_neg c7] at H
  obtain ⟨c7b0, c7b1⟩ := eqF c7
  (first | rw [c7b0] | (simp only [i64_w, i32_w]; rw [c7b0]) | skip)
  have H' := Aside0.mk H
  clear H
  exact lf26
 case rest =>
  clear HC3
  try clear p2
  try clear c3
  try clear c4
  try clear c7
  try clear c7b0
  try clear c7b1
  try clear hcz6_0
  try clear hcz6_1
  try clear hcz6_2
  try clear hcz8_0
  try clear hcz8_1
  try clear hcz8_2
  try clear hfz6_0
  try clear hfz6_1
  try clear hfz6_2
  try clear hfz8_0
  try clear hfz8_1
  try clear hfz8_2
  obtain ⟨kq, x17_2, rfl, HA, HJ2, BK463, HB⟩ := hcut
  cases kq with
  | zero => exact absurd HA.out (by simp [cardexref01_Bare.j0])
  | succ kj2 =>
   have H := HA.out
   clear HA
   simp only [cardexref01_Bare.j0] at H
   by_cases c9 : x17_2 = true
   ·subst c9
    have H1 : (some ((⟨#[]⟩ : ByteArray), 14)) = some (r1, r2) := by rw [if_pos rfl] at H; exact H
    clear H
    have H := H1
    clear H1
    simp only [Option.some.injEq, Prod.mk.injEq] at H
    obtain ⟨rfl, rfl⟩ := H
    exact lf26
   replace c9 := Bool.eq_false_iff.mpr c9
   subst c9
   have H1 : (if t462 = 0 then ((cardexref01_JidText.f t459 t460 t461).bind fun t464 => (some (t464, t462))) else (some ((⟨#[]⟩ : ByteArray), t462))) = some (r1, r2) := by rw [if_neg (show ¬ (false = true) by decide)] at H; exact H
   clear H
   have H := H1
   clear H1
   by_cases c10 : t462 = 0
   ·rw [if_pos c10] at H
    obtain ⟨c10b0, c10b1⟩ := eqT c10
    clear c10
    replace H := Option.bind_eq_some_iff.mp H
    obtain ⟨t464, A110, H⟩ := H
    try dsimp only at H
    have A11 := Aside0.mk A110
    clear A110
    simp only [Option.some.injEq, Prod.mk.injEq] at H
    obtain ⟨rfl, rfl⟩ := H
    obtain ⟨hcz12_0, hcz12_1, hcz12_2⟩ := cz3 BK463.out
    obtain ⟨hfz12_0, hfz12_1, hfz12_2⟩ := fz3 BK463.out
    exact lf26
   rw [if_neg c10] at H
   obtain ⟨c10b0, c10b1⟩ := eqF c10
   simp only [Option.some.injEq, Prod.mk.injEq] at H
   obtain ⟨rfl, rfl⟩ := H
   exact lf26
def cardexplay_Jid.f (k : Nat) (a0 : ByteArray) (a1 : Int) : Option (ByteArray) := (cardexref01_Bare.f k a0).bind fun bt465 => (if bt465.2 = 0 then (some bt465.1) else ((some (([(⟨#[97, 64, 104]⟩ : ByteArray), (⟨#[98, 64, 104]⟩ : ByteArray), (⟨#[99, 64, 104]⟩ : ByteArray), (⟨#[100, 64, 120, 46, 121]⟩ : ByteArray), (⟨#[104]⟩ : ByteArray)] : List ByteArray) : List ByteArray)).bind fun y467 => ((cardexplay_mod.f a1 5).bind fun t470 => (if 0 ≤ t470 then (if t470 < (y467.length : Int) then (some (rdOf ByteArray.empty y467 t470)) else (none)) else (none)))))
set_option maxRecDepth 100000 in
theorem lf27 {P : Prop} (h : P := by
 go_enter Tryz.func13, Tryz.ntmps13
 go_wp2_with (first | ((with_reducible refine gc 31 ?_); refine gL (some 9) Tryz.func31 #[.string a0] ?_; (with_reducible refine (cardexref01_Bare.calls k a0 t465 t466 _ A3.out).mono ?_); rintro e v0_ ⟨rfl, hb⟩; refine ⟨_, rfl, ?_⟩; replace HB := Aside0.mk (below_step zz0 hb); (try clear hb)) | ((with_reducible refine gate_dst (N := 15) rfl ?_); refine Kd.R_lit Kd.string _ 9 ?hg (N := 15) ?hd (xs := ([(⟨#[97, 64, 104]⟩ : ByteArray), (⟨#[98, 64, 104]⟩ : ByteArray), (⟨#[99, 64, 104]⟩ : ByteArray), (⟨#[100, 64, 120, 46, 121]⟩ : ByteArray), (⟨#[104]⟩ : ByteArray)] : List ByteArray)) (inner := [.string (⟨#[97, 64, 104]⟩ : ByteArray), .string (⟨#[98, 64, 104]⟩ : ByteArray), .string (⟨#[99, 64, 104]⟩ : ByteArray), .string (⟨#[100, 64, 120, 46, 121]⟩ : ByteArray), .string (⟨#[104]⟩ : ByteArray)]) (ok := fun _ => True) (okp := fun _ => True) ?hr ?hp (fun _ hk => hk) trivial (Below.refl _ _) (Nat.le_refl _) (by simp) ?_; (case hd => rfl); (case hg => rfl); (case hr => exact zz29); (case hp => exact (Reps.one (show Kd.M Kd.string _ _ _ (⟨#[97, 64, 104]⟩ : ByteArray) [.string (⟨#[97, 64, 104]⟩ : ByteArray)] from rfl) (Reps.one (show Kd.M Kd.string _ _ _ (⟨#[98, 64, 104]⟩ : ByteArray) [.string (⟨#[98, 64, 104]⟩ : ByteArray)] from rfl) (Reps.one (show Kd.M Kd.string _ _ _ (⟨#[99, 64, 104]⟩ : ByteArray) [.string (⟨#[99, 64, 104]⟩ : ByteArray)] from rfl) (Reps.one (show Kd.M Kd.string _ _ _ (⟨#[100, 64, 120, 46, 121]⟩ : ByteArray) [.string (⟨#[100, 64, 120, 46, 121]⟩ : ByteArray)] from rfl) (Reps.one (show Kd.M Kd.string _ _ _ (⟨#[104]⟩ : ByteArray) [.string (⟨#[104]⟩ : ByteArray)] from rfl) (Reps.none _ _))))))); intro v468 v1_ ho11 hb hg_ hnew_; clear hg_ hnew_; (first | rw [← Ny467.out] at ho11 | (simp only [Int.reduceToNat] at ho11; rw [← Ny467.out] at ho11)); have n_ := as2 (Kd.R_lower ho11 (below_size zz0)) (below_step zz0 hb); clear HB; obtain ⟨HO469, HB⟩ := n_; clear hb ho11) | ((with_reducible refine gc 15 ?_); refine gL (some 17) Tryz.func15 #[.int .i64 a1, .int .i64 5] ?_; (with_reducible refine (cardexplay_mod.calls a1 5 t470 _ A6.out).mono ?_); rintro e w' ⟨rfl, ⟨nd, rfl⟩⟩; refine ⟨_, rfl, ?_⟩; obtain ⟨Ao12, co12, eo12⟩ := Kd.R_slice HO469.out; subst eo12; have p471 : 0 ≤ (t470 : Int) := of_decide_eq_true zz6; have q471 : t470 < (y467.length : Int) := of_decide_eq_true zz6; obtain ⟨ad471, e471, hx471_0⟩ := Kd.at_string (Kd.R_reads' HO469.out).2.2 t470 p471 q471; cases e471; replace p471 := eq_true p471; replace q471 := eq_true q471))
 go_ret; exact ⟨zz4, zz0⟩) : P := h
set_option maxHeartbeats 8000000 in
set_option maxRecDepth 100000 in
theorem cardexplay_Jid.calls (k : Nat) (a0 : ByteArray) (a1 : Int) (r : ByteArray) (w : World) (h : cardexplay_Jid.f k a0 a1 = some r) :
  Calls Tryz.prog 13 #[.string a0, .int .i64 a1] w fun e w' => e = .returned (.string r) ∧ Below w.heap.size w w' := by
 have HB := Aside0.mk (Below.refl w.heap.size w)
 have H : ((cardexref01_Bare.f k a0).bind fun bt465 => (if bt465.2 = 0 then (some bt465.1) else ((some (([(⟨#[97, 64, 104]⟩ : ByteArray), (⟨#[98, 64, 104]⟩ : ByteArray), (⟨#[99, 64, 104]⟩ : ByteArray), (⟨#[100, 64, 120, 46, 121]⟩ : ByteArray), (⟨#[104]⟩ : ByteArray)] : List ByteArray) : List ByteArray)).bind fun y467 => ((cardexplay_mod.f a1 5).bind fun t470 => (if 0 ≤ t470 then (if t470 < (y467.length : Int) then (some (rdOf ByteArray.empty y467 t470)) else (none)) else (none)))))) = some r := h
 clear h
 replace H := Option.bind_eq_some_iff.mp H
 obtain ⟨⟨t465, t466⟩, A30, H⟩ := H
 try dsimp only at H
 have A3 := Aside0.mk A30
 clear A30
 by_cases c4 : t466 = 0
 ·rw [if_pos c4] at H
  obtain ⟨c4b0, c4b1⟩ := eqT c4
  clear c4
  obtain rfl := Option.some.inj H
  exact lf27
 rw [if_neg c4] at H
 obtain ⟨c4b0, c4b1⟩ := eqF c4
 obtain ⟨y467, hy467⟩ : ∃ y_ : List ByteArray, y_ = (([(⟨#[97, 64, 104]⟩ : ByteArray), (⟨#[98, 64, 104]⟩ : ByteArray), (⟨#[99, 64, 104]⟩ : ByteArray), (⟨#[100, 64, 120, 46, 121]⟩ : ByteArray), (⟨#[104]⟩ : ByteArray)] : List ByteArray)) := ⟨_, rfl⟩
 replace H : ((cardexplay_mod.f a1 5).bind fun t470 => (if 0 ≤ t470 then (if t470 < (y467.length : Int) then (some (rdOf ByteArray.empty y467 t470)) else (none)) else (none))) = some r := by first | (rw [hy467]; with_reducible exact H) | (have H2_ := (Option.bind_some _ _).symm.trans H; rw [hy467]; with_reducible exact H2_) | (have H2_ := (Option.bind_some _ _).symm.trans H; with_reducible exact H2_) | with_reducible exact H | (rw [hy467]; exact H) | exact H
 have Ny467 := Aside0.mk hy467
 clear hy467
 replace H := Option.bind_eq_some_iff.mp H
 obtain ⟨t470, A60, H⟩ := H
 try dsimp only at H
 have A6 := Aside0.mk A60
 clear A60
 by_cases c7 : 0 ≤ t470
 ·rw [if_pos c7] at H
  have c7b0 := decide_eq_true c7
  clear c7
  by_cases c8 : t470 < (y467.length : Int)
  ·rw [if_pos c8] at H
   have c8b0 := decide_eq_true c8
   clear c8
   obtain rfl := Option.some.inj H
   exact lf27
  rw [if_neg c8] at H
  exact absurd H (by simp)
 rw [if_neg c7] at H
 exact absurd H (by simp)
def cardexref01_Line.l0 : Nat → ByteArray → Int → List Int → Int → Option (Bool)
 | 0, _, _, _, _ => none
 | k + 1, x0, x1, x5, x6 => if x6 < (x5.length : Int) then (if 0 ≤ x6 then (if (rd x5 x6) < 32 then (some false) else (cardexref01_Line.l0 k x0 x1 x5 (wrap64 (x6 + 1)))) else (none)) else ((cardexref01_Valid.f k x0).bind fun t476 => (if t476 = true then (some (decide ((x5.length : Int) ≤ x1))) else (some false)))
def cardexref01_Line.f (k : Nat) (a0 : ByteArray) (a1 : Int) : Option (Bool) := (cardexref01_Runes.f k a0).bind fun t472 => (cardexref01_Line.l0 k a0 a1 t472 0)
theorem lf28 {P : Prop} (h : P := by
 go_wp2_with (first | ((with_reducible refine gc 45 ?_); refine gL (some 21) Tryz.func45 #[.string a0] ?_; (with_reducible refine (cardexref01_Valid.calls k1 a0 true _ A10.out).mono ?_); rintro e w' ⟨rfl, ⟨nd, rfl⟩⟩; refine ⟨_, rfl, ?_⟩) | ((with_reducible refine gc 45 ?_); refine gL (some 21) Tryz.func45 #[.string a0] ?_; (with_reducible refine (cardexref01_Valid.calls k1 a0 false _ A10.out).mono ?_); rintro e w' ⟨rfl, ⟨nd, rfl⟩⟩; refine ⟨_, rfl, ?_⟩))
 first
  | (go_ret; exact ⟨zz4, zz0⟩)
  | (go_roundg k1; (case measure => have := HK1.out; omega); (case rel => exact ⟨(wrap64 (x6_1 + 1)), zz1, H', ⟨zz58⟩, ⟨zz28⟩, ⟨zz0⟩⟩))) : P := h
set_option maxHeartbeats 8000000 in
set_option maxRecDepth 100000 in
theorem cardexref01_Line.calls (k : Nat) (a0 : ByteArray) (a1 : Int) (r : Bool) (w : World) (h : cardexref01_Line.f k a0 a1 = some r) :
  Calls Tryz.prog 32 #[.string a0, .int .i64 a1] w fun e w' => e = .returned (.bool r) ∧ Below w.heap.size w w' := by
 have HB := Aside0.mk (Below.refl w.heap.size w)
 have H : ((cardexref01_Runes.f k a0).bind fun t472 => (cardexref01_Line.l0 k a0 a1 t472 0)) = some r := h
 clear h
 replace H := Option.bind_eq_some_iff.mp H
 obtain ⟨t472, A30, H⟩ := H
 try dsimp only at H
 have A3 := Aside0.mk A30
 clear A30
 have H' := Aside0.mk H
 clear H
 go_enter Tryz.func32, Tryz.ntmps32
 go_wp2_with (first | ((with_reducible refine gc 44 ?_); refine gL (some 8) Tryz.func44 #[.string a0] ?_; (with_reducible refine (cardexref01_Runes.calls k a0 t472 _ A3.out).mono ?_); rintro e w4 ⟨v473, rfl, ho0, hb⟩; refine ⟨_, rfl, ?_⟩; have n_ := as2 (Kd.R_lower ho0 (below_size zz0)) (below_step zz0 hb); clear HB; obtain ⟨HO474, HB⟩ := n_; (try clear hb ho0)))
 go_loopg [6] k (fun kq v6 w' => ∃ (x6_1 : Int), v6 = .int .i64 x6_1 ∧ Aside0 (cardexref01_Line.l0 kq a0 a1 t472 x6_1 = some r) ∧ Aside0 (kq ≤ k) ∧ Aside0 (Kd.R (Kd.int .i64) 3 w' w.heap.size (fun _ => True) v473 t472) ∧ Aside0 (Below w.heap.size w w'))
 case atStart => exact ⟨(0), zz1, H', ⟨Nat.le_refl _⟩, ⟨by (with_reducible repeat (first | apply Kd.R_alloc | apply Kd.R_drewN | apply Kd.R_drew)); exact HO474.out⟩, ⟨zz0⟩⟩
 case round =>
  clear H'
  try clear p2
  try clear c3
  try clear c4
  obtain ⟨x6_1, rfl, HA, HK1, HO_5, HB⟩ := hrel
  cases gk with
  | zero => exact absurd HA.out (by simp [cardexref01_Line.l0])
  | succ k1 =>
   have H := HA.out
   clear HA
   simp only [cardexref01_Line.l0] at H
   by_cases c5 : x6_1 < (t472.length : Int)
   ·rw [if_pos c5] at H
    have c5b0 := decide_eq_true c5
    clear c5
    by_cases c6 : 0 ≤ x6_1
    ·rw [if_pos c6] at H
     have c6b0 := decide_eq_true c6
     clear c6
     by_cases c7 : (rd t472 x6_1) < 32
     ·rw [if_pos c7] at H
      have c7b0 := decide_eq_true c7
      clear c7
      obtain rfl := Option.some.inj H
      obtain ⟨Ao8, co8, eo8⟩ := Kd.R_slice HO_5.out
      subst eo8
      have p475 : 0 ≤ (x6_1 : Int) := of_decide_eq_true zz6
      have q475 : x6_1 < (t472.length : Int) := of_decide_eq_true zz6
      obtain ⟨ad475, e475, hx475_0⟩ := Kd.at_int (Kd.R_reads' HO_5.out).2.2 x6_1 p475 q475
      cases e475
      replace p475 := eq_true p475
      replace q475 := eq_true q475
      exact lf28
     rw [if_neg c7] at H
     have c7b0 := decide_eq_false c7
     clear c7
     have H' := Aside0.mk H
     clear H
     obtain ⟨Ao9, co9, eo9⟩ := Kd.R_slice HO_5.out
     subst eo9
     have p475 : 0 ≤ (x6_1 : Int) := of_decide_eq_true zz6
     have q475 : x6_1 < (t472.length : Int) := of_decide_eq_true zz6
     obtain ⟨ad475, e475, hx475_0⟩ := Kd.at_int (Kd.R_reads' HO_5.out).2.2 x6_1 p475 q475
     cases e475
     replace p475 := eq_true p475
     replace q475 := eq_true q475
     exact lf28
    rw [if_neg c6] at H
    exact absurd H (by simp)
   rw [if_neg c5] at H
   have c5b0 := decide_eq_false c5
   clear c5
   replace H := Option.bind_eq_some_iff.mp H
   obtain ⟨t476, A100, H⟩ := H
   try dsimp only at H
   have A10 := Aside0.mk A100
   clear A100
   by_cases c11 : t476 = true
   ·subst c11
    have H1 : (some (decide ((t472.length : Int) ≤ a1))) = some r := by rw [if_pos rfl] at H; exact H
    clear H
    have H := H1
    clear H1
    obtain rfl := Option.some.inj H
    obtain ⟨Ao12, co12, eo12⟩ := Kd.R_slice HO_5.out
    subst eo12
    exact lf28
   replace c11 := Bool.eq_false_iff.mpr c11
   subst c11
   have H1 : (some false) = some r := by rw [if_neg (show ¬ (false = true) by decide)] at H; exact H
   clear H
   have H := H1
   clear H1
   obtain rfl := Option.some.inj H
   obtain ⟨Ao13, co13, eo13⟩ := Kd.R_slice HO_5.out
   subst eo13
   exact lf28
end Go.Proofs.YtaekklpphlcngaaGreatDoor.Q
