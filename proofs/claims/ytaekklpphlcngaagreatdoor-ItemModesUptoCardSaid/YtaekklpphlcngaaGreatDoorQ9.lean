-- Written by hookprint.py (wip/) of this session: the kit's print with hand-proved functions beside it. Not trusted: Lean checks it.
import Derived.Test.YtaekklpphlcngaaGreatDoorQ0
import Derived.Test.YtaekklpphlcngaaGreatDoorQ8
namespace Go.Proofs.YtaekklpphlcngaaGreatDoor.Q
open List (setIfInBounds_toArray set_cons_zero set_cons_succ)
open Go.RowKit Go.Lib Go.Proofs.YtaekklpphlcngaaGreatDoorX Go.Proofs.YtaekklpphlcngaaGreatDoorW.PrintWords Go.Proofs.YtaekklpphlcngaaGreatDoorW.PrintLast Go.Proofs.YtaekklpphlcngaaGreatDoorW.PrintMore
set_option linter.unusedVariables false
set_option linter.unusedSimpArgs false
def cardexref01_Gone.f (k : Nat)  : Option ((List (S119))) := (cardexref01_table.f k (([173, 173, 847, 847, 6150, 6150, 8203, 8205, 8288, 8288, 65024, 65039, 65279, 65279] : List Int))).bind fun t327 => (some t327)
set_option maxHeartbeats 8000000 in
set_option maxRecDepth 100000 in
theorem cardexref01_Gone.calls (k : Nat)  (r : List (S119)) (w : World) (h : cardexref01_Gone.f k  = some r) :
  Calls Tryz.prog 117 #[] w fun e w' => ∃ v0_ : Value, e = .returned (v0_) ∧ Kd.R k119 119 w' w.heap.size (fun _ => True) v0_ r ∧ Below w.heap.size w w' := by
 have HB := Aside0.mk (Below.refl w.heap.size w)
 have H : ((cardexref01_table.f k (([173, 173, 847, 847, 6150, 6150, 8203, 8205, 8288, 8288, 65024, 65039, 65279, 65279] : List Int))).bind fun t327 => (some t327)) = some r := h
 clear h
 obtain ⟨y324, hy324⟩ : ∃ y_ : List Int, y_ = (([173, 173, 847, 847, 6150, 6150, 8203, 8205, 8288, 8288, 65024, 65039, 65279, 65279] : List Int)) := ⟨_, rfl⟩
 replace H : ((cardexref01_table.f k y324).bind fun t327 => (some t327)) = some r := by first | (rw [hy324]; with_reducible exact H) | (have H2_ := (Option.bind_some _ _).symm.trans H; rw [hy324]; with_reducible exact H2_) | (have H2_ := (Option.bind_some _ _).symm.trans H; with_reducible exact H2_) | with_reducible exact H | (rw [hy324]; exact H) | exact H
 have Ny324 := Aside0.mk hy324
 clear hy324
 replace H := Option.bind_eq_some_iff.mp H
 obtain ⟨t327, A10, H⟩ := H
 try dsimp only at H
 have A1 := Aside0.mk A10
 clear A10
 obtain rfl := Option.some.inj H
 go_enter Tryz.func117, Tryz.ntmps117
 go_wp2_with (first | ((with_reducible refine gate_dst (N := 1) rfl ?_); refine Kd.R_lit (Kd.int .i64) _ 3 ?hg (N := 1) ?hd (xs := ([173, 173, 847, 847, 6150, 6150, 8203, 8205, 8288, 8288, 65024, 65039, 65279, 65279] : List Int)) (inner := [.int .i64 173, .int .i64 173, .int .i64 847, .int .i64 847, .int .i64 6150, .int .i64 6150, .int .i64 8203, .int .i64 8205, .int .i64 8288, .int .i64 8288, .int .i64 65024, .int .i64 65039, .int .i64 65279, .int .i64 65279]) (ok := fun _ => True) (okp := fun _ => True) ?hr ?hp (fun _ hk => hk) trivial (Below.refl _ _) (Nat.le_refl _) (by simp) ?_; (case hd => rfl); (case hg => rfl); (case hr => exact zz29); (case hp => exact (Reps.one (show Kd.M (Kd.int .i64) _ _ _ 173 [.int .i64 173] from rfl) (Reps.one (show Kd.M (Kd.int .i64) _ _ _ 173 [.int .i64 173] from rfl) (Reps.one (show Kd.M (Kd.int .i64) _ _ _ 847 [.int .i64 847] from rfl) (Reps.one (show Kd.M (Kd.int .i64) _ _ _ 847 [.int .i64 847] from rfl) (Reps.one (show Kd.M (Kd.int .i64) _ _ _ 6150 [.int .i64 6150] from rfl) (Reps.one (show Kd.M (Kd.int .i64) _ _ _ 6150 [.int .i64 6150] from rfl) (Reps.one (show Kd.M (Kd.int .i64) _ _ _ 8203 [.int .i64 8203] from rfl) (Reps.one (show Kd.M (Kd.int .i64) _ _ _ 8205 [.int .i64 8205] from rfl) (Reps.one (show Kd.M (Kd.int .i64) _ _ _ 8288 [.int .i64 8288] from rfl) (Reps.one (show Kd.M (Kd.int .i64) _ _ _ 8288 [.int .i64 8288] from rfl) (Reps.one (show Kd.M (Kd.int .i64) _ _ _ 65024 [.int .i64 65024] from rfl) (Reps.one (show Kd.M (Kd.int .i64) _ _ _ 65039 [.int .i64 65039] from rfl) (Reps.one (show Kd.M (Kd.int .i64) _ _ _ 65279 [.int .i64 65279] from rfl) (Reps.one (show Kd.M (Kd.int .i64) _ _ _ 65279 [.int .i64 65279] from rfl) (Reps.none _ _)))))))))))))))); intro v325 w2 ho3 hb hg_ hnew_; clear hg_ hnew_; (first | rw [← Ny324.out] at ho3 | (simp only [Int.reduceToNat] at ho3; rw [← Ny324.out] at ho3)); have n_ := as2 (Kd.R_lower ho3 (below_size zz0)) (below_step zz0 hb); clear HB; obtain ⟨HO326, HB⟩ := n_; clear hb ho3; obtain ⟨Ao4, co4, eo4⟩ := Kd.R_slice HO326.out; subst eo4) | ((with_reducible refine gc 132 ?_); refine gL (some 2) Tryz.func132 #[.slice Ao4 y324.length co4] ?_; (with_reducible refine (cardexref01_table.calls k _ _ y324 t327 _ ?side1 ?side2 A1.out).mono ?_); (case side1 => exact (by repeat (first | exact (Kd.R_reads' HO326.out).2.2 | (with_reducible refine Kd.C_alloc ?_ _) | (with_reducible refine Kd.C_drewN ?_ _) | (with_reducible refine Kd.C_drew ?_)))); (case side2 => exact (Kd.R_reads' HO326.out).2.1); rintro e w5 ⟨v328, rfl, ho0, hb⟩; refine ⟨_, rfl, ?_⟩; have n_ := as3 (Kd.R_below (by (with_reducible repeat (first | apply Kd.R_alloc | apply Kd.R_drewN | apply Kd.R_drew)); exact HO326.out) hb) (Kd.R_lower ho0 (below_size zz0)) (below_step zz0 hb); clear HO326 HB; obtain ⟨HO326, HO329, HB⟩ := n_; (try clear hb ho0)))
 go_ret
 exact ⟨_, zz4, by (with_reducible repeat (first | apply Kd.R_alloc | apply Kd.R_drewN | apply Kd.R_drew)); exact HO329.out, zz0⟩
mutual
def cardexref01_mapped.l0 : Nat → List Int → Bool → List Int → Int → Option (List Int)
 | 0, _, _, _, _ => none
 | k + 1, x0, x1, x5, x6 => if x6 < (x0.length : Int) then (if 0 ≤ x6 then ((cardexref01_Gone.f k).bind fun t331 => ((cardexref01_In.f k t331 (rd x0 x6)).bind fun t334 => (if t334 = true then (cardexref01_mapped.l0 k x0 x1 x5 (wrap64 (x6 + 1))) else (if x1 = true then (if (rd x0 x6) ≥ 65 then (if (rd x0 x6) ≤ 90 then (cardexref01_mapped.j1 k x0 x1 x5 x6 (rd x0 x6) true) else (if (rd x0 x6) ≥ 192 then (if (rd x0 x6) ≤ 222 then (cardexref01_mapped.j1 k x0 x1 x5 x6 (rd x0 x6) ((rd x0 x6) != 215)) else (cardexref01_mapped.j1 k x0 x1 x5 x6 (rd x0 x6) false)) else (cardexref01_mapped.j1 k x0 x1 x5 x6 (rd x0 x6) false))) else (if (rd x0 x6) ≥ 192 then (if (rd x0 x6) ≤ 222 then (cardexref01_mapped.j1 k x0 x1 x5 x6 (rd x0 x6) ((rd x0 x6) != 215)) else (cardexref01_mapped.j1 k x0 x1 x5 x6 (rd x0 x6) false)) else (cardexref01_mapped.j1 k x0 x1 x5 x6 (rd x0 x6) false))) else (cardexref01_mapped.j1 k x0 x1 x5 x6 (rd x0 x6) false))))) else (none)) else (some x5)
def cardexref01_mapped.j1 : Nat → List Int → Bool → List Int → Int → Int → Bool → Option (List Int)
 | 0, _, _, _, _, _, _ => none
 | k + 1, x0, x1, x5, x6, x7, x26 => if x26 = true then (if x5.length < 17592186044416 then (cardexref01_mapped.l0 k x0 x1 (x5 ++ [wrap64 (x7 + 32)]) (wrap64 (x6 + 1))) else (none)) else (if x1 = true then (if x7 = 223 then ((some (([115, 115] : List Int) : List Int)).bind fun y338 => (if x5.length + y338.length < 17592186044416 then (cardexref01_mapped.l0 k x0 x1 (x5 ++ y338) (wrap64 (x6 + 1))) else (none))) else (if x5.length < 17592186044416 then (cardexref01_mapped.l0 k x0 x1 (x5 ++ [x7]) (wrap64 (x6 + 1))) else (none))) else (if x5.length < 17592186044416 then (cardexref01_mapped.l0 k x0 x1 (x5 ++ [x7]) (wrap64 (x6 + 1))) else (none)))
end
def cardexref01_mapped.f (k : Nat) (l0 : List Int) (a1 : Bool) : Option (List Int) := cardexref01_mapped.l0 k l0 a1 ([] : List Int) 0
set_option maxHeartbeats 8000000 in
set_option maxRecDepth 100000 in
theorem cardexref01_mapped.calls (k : Nat) (A0 : Option Addr) (c0 : Nat) (l0 : List Int) (a1 : Bool) (r : List Int) (w : World) (hr0 : Kd.C (Kd.int .i64) w A0 l0.length l0) (hc0 : l0.length ≤ c0) (h : cardexref01_mapped.f k l0 a1 = some r) :
  Calls Tryz.prog 101 #[.slice A0 l0.length c0, .bool a1] w fun e w' => ∃ v0_ : Value, e = .returned (v0_) ∧ Kd.R (Kd.int .i64) 3 w' w.heap.size (fun _ => True) v0_ r ∧ Below w.heap.size w w' := by
 have HR0 := Aside0.mk hr0
 have HC0 := Aside0.mk hc0
 clear hr0 hc0
 have HB := Aside0.mk (Below.refl w.heap.size w)
 have H : (cardexref01_mapped.l0 k l0 a1 ([] : List Int) 0) = some r := h
 clear h
 have H' := Aside0.mk H
 clear H
 go_enter Tryz.func101, Tryz.ntmps101
 go_wp2
 go_loopg [5, 6] k (fun kq v5 v6 w' => ∃ (x5_1 : List Int) (x6_1 : Int), v6 = .int .i64 x6_1 ∧ Aside0 (cardexref01_mapped.l0 kq l0 a1 x5_1 x6_1 = some r) ∧ Aside0 (kq ≤ k) ∧ Aside0 (Kd.R (Kd.int .i64) 3 w' w.heap.size (fun _ => True) v5 x5_1) ∧ Aside0 (Below w.heap.size w w'))
 case atStart => exact ⟨(([] : List Int)), (0), zz1, H', ⟨Nat.le_refl _⟩, ⟨zz46⟩, ⟨zz0⟩⟩
 case round =>
  clear H'
  try clear c1
  try clear p2
  obtain ⟨x5_1, x6_1, rfl, HA, HK1, HO_5, HB⟩ := hrel
  cases gk with
  | zero => exact absurd HA.out (by simp [cardexref01_mapped.l0])
  | succ k1 =>
   have H := HA.out
   clear HA
   simp only [cardexref01_mapped.l0] at H
   by_cases c3 : x6_1 < (l0.length : Int)
   ·rw [if_pos c3] at H
    have c3b0 := decide_eq_true c3
    clear c3
    by_cases c4 : 0 ≤ x6_1
    ·rw [if_pos c4] at H
     have c4b0 := decide_eq_true c4
     clear c4
     replace H := Option.bind_eq_some_iff.mp H
     obtain ⟨t331, A50, H⟩ := H
     try dsimp only at H
     have A5 := Aside0.mk A50
     clear A50
     replace H := Option.bind_eq_some_iff.mp H
     obtain ⟨t334, A60, H⟩ := H
     try dsimp only at H
     have A6 := Aside0.mk A60
     clear A60
     by_cases c7 : t334 = true
     ·subst c7
      have H1 : (cardexref01_mapped.l0 k1 l0 a1 x5_1 (wrap64 (x6_1 + 1))) = some r := by rw [if_pos rfl] at H; exact H
      clear H
      have H := H1
      clear H1
      have H' := Aside0.mk H
      clear H
      have p330 : 0 ≤ (x6_1 : Int) := of_decide_eq_true zz6
      have q330 : x6_1 < (l0.length : Int) := of_decide_eq_true zz6
      obtain ⟨ad330, e330, hx330_0⟩ := Kd.at_int HR0.out x6_1 p330 q330
      cases e330
      replace hx330_0 := hereB HB hx330_0
      replace p330 := eq_true p330
      replace q330 := eq_true q330
      go_wp2_with (first | ((with_reducible refine gc 117 ?_); refine gL (some 23) Tryz.func117 #[] ?_; (with_reducible refine (cardexref01_Gone.calls k1  t331 _ A5.out).mono ?_); rintro e w8 ⟨v332, rfl, ho0, hb⟩; refine ⟨_, rfl, ?_⟩; have n_ := as3 (Kd.R_below zz28 hb) (Kd.R_lower ho0 (below_size zz0)) (below_step zz0 hb); clear HO_5 HB; obtain ⟨HO_5, HO333, HB⟩ := n_; (try clear hb ho0); obtain ⟨Ao9, co9, eo9⟩ := Kd.R_slice HO333.out; subst eo9) | ((with_reducible refine gc 116 ?_); refine gL (some 25) Tryz.func116 #[.slice Ao9 t331.length co9, .int .i64 (rd l0 x6_1)] ?_; (with_reducible refine (cardexref01_In.calls k1 _ _ t331 (rd l0 x6_1) true _ ?side1 ?side2 A6.out).mono ?_); (case side1 => exact (by repeat (first | exact (Kd.R_reads' HO333.out).2.2 | (with_reducible refine Kd.C_alloc ?_ _) | (with_reducible refine Kd.C_drewN ?_ _) | (with_reducible refine Kd.C_drew ?_)))); (case side2 => exact (Kd.R_reads' HO333.out).2.1); rintro e w' ⟨rfl, ⟨nd, rfl⟩⟩; refine ⟨_, rfl, ?_⟩))
      go_roundg k1
      case measure => have := HK1.out; omega
      case rel => exact ⟨(x5_1), (wrap64 (x6_1 + 1)), zz1, H', ⟨zz58⟩, ⟨zz28⟩, ⟨zz0⟩⟩
     replace c7 := Bool.eq_false_iff.mpr c7
     subst c7
     have H1 : (if a1 = true then (if (rd l0 x6_1) ≥ 65 then (if (rd l0 x6_1) ≤ 90 then (cardexref01_mapped.j1 k1 l0 a1 x5_1 x6_1 (rd l0 x6_1) true) else (if (rd l0 x6_1) ≥ 192 then (if (rd l0 x6_1) ≤ 222 then (cardexref01_mapped.j1 k1 l0 a1 x5_1 x6_1 (rd l0 x6_1) ((rd l0 x6_1) != 215)) else (cardexref01_mapped.j1 k1 l0 a1 x5_1 x6_1 (rd l0 x6_1) false)) else (cardexref01_mapped.j1 k1 l0 a1 x5_1 x6_1 (rd l0 x6_1) false))) else (if (rd l0 x6_1) ≥ 192 then (if (rd l0 x6_1) ≤ 222 then (cardexref01_mapped.j1 k1 l0 a1 x5_1 x6_1 (rd l0 x6_1) ((rd l0 x6_1) != 215)) else (cardexref01_mapped.j1 k1 l0 a1 x5_1 x6_1 (rd l0 x6_1) false)) else (cardexref01_mapped.j1 k1 l0 a1 x5_1 x6_1 (rd l0 x6_1) false))) else (cardexref01_mapped.j1 k1 l0 a1 x5_1 x6_1 (rd l0 x6_1) false)) = some r := by rw [if_neg (show ¬ (false = true) by decide)] at H; exact H
     clear H
     have H := H1
     clear H1
     have HC10 := Aside0.mk H
     clear H
     have p330 : 0 ≤ (x6_1 : Int) := of_decide_eq_true zz6
     have q330 : x6_1 < (l0.length : Int) := of_decide_eq_true zz6
     obtain ⟨ad330, e330, hx330_0⟩ := Kd.at_int HR0.out x6_1 p330 q330
     cases e330
     replace hx330_0 := hereB HB hx330_0
     replace p330 := eq_true p330
     replace q330 := eq_true q330
     go_upto_region 8 with (first | ((with_reducible refine gc 117 ?_); refine gL (some 23) Tryz.func117 #[] ?_; (with_reducible refine (cardexref01_Gone.calls k1  t331 _ A5.out).mono ?_); rintro e w11 ⟨v332, rfl, ho0, hb⟩; refine ⟨_, rfl, ?_⟩; have n_ := as3 (Kd.R_below zz28 hb) (Kd.R_lower ho0 (below_size zz0)) (below_step zz0 hb); clear HO_5 HB; obtain ⟨HO_5, HO333, HB⟩ := n_; (try clear hb ho0); obtain ⟨Ao12, co12, eo12⟩ := Kd.R_slice HO333.out; subst eo12) | ((with_reducible refine gc 116 ?_); refine gL (some 25) Tryz.func116 #[.slice Ao12 t331.length co12, .int .i64 (rd l0 x6_1)] ?_; (with_reducible refine (cardexref01_In.calls k1 _ _ t331 (rd l0 x6_1) false _ ?side1 ?side2 A6.out).mono ?_); (case side1 => exact (by repeat (first | exact (Kd.R_reads' HO333.out).2.2 | (with_reducible refine Kd.C_alloc ?_ _) | (with_reducible refine Kd.C_drewN ?_ _) | (with_reducible refine Kd.C_drew ?_)))); (case side2 => exact (Kd.R_reads' HO333.out).2.1); rintro e w' ⟨rfl, ⟨nd, rfl⟩⟩; refine ⟨_, rfl, ?_⟩))
     (try simp only [Act.put, setIfInBounds_toArray, set_cons_zero, set_cons_succ])
     go_cut [26] (fun v26 wc => ∃ (kq : Nat) (x26_9 : Bool), v26 = .bool x26_9 ∧ Aside0 (cardexref01_mapped.j1 kq l0 a1 x5_1 x6_1 (rd l0 x6_1) x26_9 = some r) ∧ Aside0 (kq ≤ k1) ∧ Aside0 (Kd.R (Kd.int .i64) 3 wc w.heap.size (fun _ => True) u5 x5_1) ∧ Aside0 (Below w.heap.size w wc))
     case first =>
      have H := HC10.out
      clear HC10
      by_cases c13 : a1 = true
      ·subst c13
       have H1 : (if (rd l0 x6_1) ≥ 65 then (if (rd l0 x6_1) ≤ 90 then (cardexref01_mapped.j1 k1 l0 true x5_1 x6_1 (rd l0 x6_1) true) else (if (rd l0 x6_1) ≥ 192 then (if (rd l0 x6_1) ≤ 222 then (cardexref01_mapped.j1 k1 l0 true x5_1 x6_1 (rd l0 x6_1) ((rd l0 x6_1) != 215)) else (cardexref01_mapped.j1 k1 l0 true x5_1 x6_1 (rd l0 x6_1) false)) else (cardexref01_mapped.j1 k1 l0 true x5_1 x6_1 (rd l0 x6_1) false))) else (if (rd l0 x6_1) ≥ 192 then (if (rd l0 x6_1) ≤ 222 then (cardexref01_mapped.j1 k1 l0 true x5_1 x6_1 (rd l0 x6_1) ((rd l0 x6_1) != 215)) else (cardexref01_mapped.j1 k1 l0 true x5_1 x6_1 (rd l0 x6_1) false)) else (cardexref01_mapped.j1 k1 l0 true x5_1 x6_1 (rd l0 x6_1) false))) = some r := by rw [if_pos rfl] at H; exact H
       clear H
       have H := H1
       clear H1
       by_cases c14 : (rd l0 x6_1) ≥ 65
       ·rw [if_pos c14] at H
        have c14b0 := decide_eq_true c14
        clear c14
        (first | rw [c14b0] | (simp only [i64_w, i32_w]; rw [c14b0]) | skip)
        by_cases c15 : (rd l0 x6_1) ≤ 90
        ·rw [if_pos c15] at H
         have c15b0 := decide_eq_true c15
         clear c15
         have H' := Aside0.mk H
         clear H
         go_wp2
         go_meet
         case rel => exact ⟨_, (true), zz1, H', ⟨zz55⟩, ⟨zz28⟩, ⟨zz0⟩⟩
        rw [if_neg c15] at H
        have c15b0 := decide_eq_false c15
        clear c15
        by_cases c16 : (rd l0 x6_1) ≥ 192
        ·rw [if_pos c16] at H
         have c16b0 := decide_eq_true c16
         clear c16
         by_cases c17 : (rd l0 x6_1) ≤ 222
         ·rw [if_pos c17] at H
          have c17b0 := decide_eq_true c17
          clear c17
          have H' := Aside0.mk H
          clear H
          go_wp2
          go_meet
          case rel => exact ⟨_, (((rd l0 x6_1) != 215)), zz1, H', ⟨zz55⟩, ⟨zz28⟩, ⟨zz0⟩⟩
         rw [if_neg c17] at H
         have c17b0 := decide_eq_false c17
         clear c17
         have H' := Aside0.mk H
         clear H
         go_wp2
         go_meet
         case rel => exact ⟨_, (false), zz1, H', ⟨zz55⟩, ⟨zz28⟩, ⟨zz0⟩⟩
        rw [if_neg c16] at H
        have c16b0 := decide_eq_false c16
        clear c16
        have H' := Aside0.mk H
        clear H
        go_wp2
        go_meet
        case rel => exact ⟨_, (false), zz1, H', ⟨zz55⟩, ⟨zz28⟩, ⟨zz0⟩⟩
       rw [if_neg c14] at H
       have c14b0 := decide_eq_false c14
       clear c14
       (first | rw [c14b0] | (simp only [i64_w, i32_w]; rw [c14b0]) | skip)
       by_cases c18 : (rd l0 x6_1) ≥ 192
       ·rw [if_pos c18] at H
        have c18b0 := decide_eq_true c18
        clear c18
        by_cases c19 : (rd l0 x6_1) ≤ 222
        ·rw [if_pos c19] at H
         have c19b0 := decide_eq_true c19
         clear c19
         have H' := Aside0.mk H
         clear H
         go_wp2
         go_meet
         case rel => exact ⟨_, (((rd l0 x6_1) != 215)), zz1, H', ⟨zz55⟩, ⟨zz28⟩, ⟨zz0⟩⟩
        rw [if_neg c19] at H
        have c19b0 := decide_eq_false c19
        clear c19
        have H' := Aside0.mk H
        clear H
        go_wp2
        go_meet
        case rel => exact ⟨_, (false), zz1, H', ⟨zz55⟩, ⟨zz28⟩, ⟨zz0⟩⟩
       rw [if_neg c18] at H
       have c18b0 := decide_eq_false c18
       clear c18
       have H' := Aside0.mk H
       clear H
       go_wp2
       go_meet
       case rel => exact ⟨_, (false), zz1, H', ⟨zz55⟩, ⟨zz28⟩, ⟨zz0⟩⟩
      replace c13 := Bool.eq_false_iff.mpr c13
      subst c13
      have H1 : (cardexref01_mapped.j1 k1 l0 false x5_1 x6_1 (rd l0 x6_1) false) = some r := by rw [if_neg (show ¬ (false = true) by decide)] at H; exact H
      clear H
      have H := H1
      clear H1
      have H' := Aside0.mk H
      clear H
      go_wp2
      go_meet
      case rel => exact ⟨_, (false), zz1, H', ⟨zz55⟩, ⟨zz28⟩, ⟨zz0⟩⟩
     case rest =>
      clear HC10
      try clear c1
      try clear p2
      try clear c3
      try clear c3b0
      try clear p3
      try clear q3
      try clear hx3
      try clear c4
      try clear c4b0
      try clear p6
      try clear c7
      try clear c10
      try clear c11
      try clear c13
      try clear c14
      try clear c14b0
      try clear c15
      try clear c15b0
      try clear c16
      try clear c16b0
      try clear c17
      try clear c17b0
      try clear c18
      try clear c18b0
      try clear c19
      try clear c19b0
      try clear hx330_0
      try clear p2
      try clear p330
      try clear q330
      obtain ⟨kq, x26_9, rfl, HA, HJ9, HO_5, HB⟩ := hcut
      cases kq with
      | zero => exact absurd HA.out (by simp [cardexref01_mapped.j1])
      | succ kj9 =>
       have H := HA.out
       clear HA
       simp only [cardexref01_mapped.j1] at H
       by_cases c20 : x26_9 = true
       ·subst c20
        have H1 : (if x5_1.length < 17592186044416 then (cardexref01_mapped.l0 kj9 l0 a1 (x5_1 ++ [wrap64 ((rd l0 x6_1) + 32)]) (wrap64 (x6_1 + 1))) else (none)) = some r := by rw [if_pos rfl] at H; exact H
        clear H
        have H := H1
        clear H1
        by_cases c21 : x5_1.length < 17592186044416
        ·rw [if_pos c21] at H
         have LMc21 := Aside0.mk c21
         clear c21
         obtain ⟨y335, hy335⟩ : ∃ y_ : List Int, y_ = (x5_1 ++ [wrap64 ((rd l0 x6_1) + 32)]) := ⟨_, rfl⟩
         replace H : (cardexref01_mapped.l0 kj9 l0 a1 y335 (wrap64 (x6_1 + 1))) = some r := by first | (rw [hy335]; with_reducible exact H) | (have H2_ := (Option.bind_some _ _).symm.trans H; rw [hy335]; with_reducible exact H2_) | (have H2_ := (Option.bind_some _ _).symm.trans H; with_reducible exact H2_) | with_reducible exact H | (rw [hy335]; exact H) | exact H
         have Ny335 := Aside0.mk hy335
         clear hy335
         have H' := Aside0.mk H
         clear H
         go_wp2_with (first | ((with_reducible refine gate_builtin (b := .append) (xs := #[.tmp 48, .tmp 51]) rfl ?_); at_builtin; refine Kd.R_append (Kd.int .i64) (w0 := w) w.heap.size rfl (.tmp 48) (.tmp 51) 72 3 (.int .i64 0) 8 rfl Tryz.underlying72 info3 rfl (by decide) (by omega) u5 x5_1 (wrap64 ((rd l0 x6_1) + 32)) [.int .i64 (wrap64 ((rd l0 x6_1) + 32))] (fun _ => True) (fun _ => False) rfl rfl ?aP (fun _ hk => hk.elim) ?aF ?aO ?aB ?aS ?aL ?_; (case aP => exact rfl); (case aB => exact zz0); (case aF => exact (fun _ _ => trivial)); (case aO => exact zz28); (case aS => exact (below_size zz0)); (case aL => have := LMc21.out; omega); intro v336 w22 ho hb hg hat; rw [← Ny335.out] at ho; have n_ := as2 hb ho; clear HB HO_5; obtain ⟨HB, HO337⟩ := n_; clear ho hb hg hat))
         go_roundg kj9
         case measure => have := HK1.out; have := HJ9.out; omega
         case rel => exact ⟨(y335), (wrap64 (x6_1 + 1)), zz1, H', ⟨by have := HK1.out; have := HJ9.out; omega⟩, ⟨by (with_reducible repeat (first | apply Kd.R_alloc | apply Kd.R_drewN | apply Kd.R_drew)); exact HO337.out⟩, ⟨zz0⟩⟩
        rw [if_neg c21] at H
        exact absurd H (by simp)
       replace c20 := Bool.eq_false_iff.mpr c20
       subst c20
       have H1 : (if a1 = true then (if (rd l0 x6_1) = 223 then ((some (([115, 115] : List Int) : List Int)).bind fun y338 => (if x5_1.length + y338.length < 17592186044416 then (cardexref01_mapped.l0 kj9 l0 a1 (x5_1 ++ y338) (wrap64 (x6_1 + 1))) else (none))) else (if x5_1.length < 17592186044416 then (cardexref01_mapped.l0 kj9 l0 a1 (x5_1 ++ [(rd l0 x6_1)]) (wrap64 (x6_1 + 1))) else (none))) else (if x5_1.length < 17592186044416 then (cardexref01_mapped.l0 kj9 l0 a1 (x5_1 ++ [(rd l0 x6_1)]) (wrap64 (x6_1 + 1))) else (none))) = some r := by rw [if_neg (show ¬ (false = true) by decide)] at H; exact H
       clear H
       have H := H1
       clear H1
       by_cases c23 : a1 = true
       ·subst c23
        have H1 : (if (rd l0 x6_1) = 223 then ((some (([115, 115] : List Int) : List Int)).bind fun y338 => (if x5_1.length + y338.length < 17592186044416 then (cardexref01_mapped.l0 kj9 l0 true (x5_1 ++ y338) (wrap64 (x6_1 + 1))) else (none))) else (if x5_1.length < 17592186044416 then (cardexref01_mapped.l0 kj9 l0 true (x5_1 ++ [(rd l0 x6_1)]) (wrap64 (x6_1 + 1))) else (none))) = some r := by rw [if_pos rfl] at H; exact H
        clear H
        have H := H1
        clear H1
        by_cases c24 : (rd l0 x6_1) = 223
        ·rw [if_pos c24] at H
         obtain ⟨c24b0, c24b1⟩ := eqT c24
         clear c24
         obtain ⟨y338, hy338⟩ : ∃ y_ : List Int, y_ = (([115, 115] : List Int)) := ⟨_, rfl⟩
         replace H : (if x5_1.length + y338.length < 17592186044416 then (cardexref01_mapped.l0 kj9 l0 true (x5_1 ++ y338) (wrap64 (x6_1 + 1))) else (none)) = some r := by first | (rw [hy338]; with_reducible exact H) | (have H2_ := (Option.bind_some _ _).symm.trans H; rw [hy338]; with_reducible exact H2_) | (have H2_ := (Option.bind_some _ _).symm.trans H; with_reducible exact H2_) | with_reducible exact H | (rw [hy338]; exact H) | exact H
         have Ny338 := Aside0.mk hy338
         clear hy338
         by_cases c25 : x5_1.length + y338.length < 17592186044416
         ·rw [if_pos c25] at H
          have LMc25 := Aside0.mk c25
          clear c25
          obtain ⟨y341, hy341⟩ : ∃ y_ : List Int, y_ = (x5_1 ++ y338) := ⟨_, rfl⟩
          replace H : (cardexref01_mapped.l0 kj9 l0 true y341 (wrap64 (x6_1 + 1))) = some r := by first | (rw [hy341]; with_reducible exact H) | (have H2_ := (Option.bind_some _ _).symm.trans H; rw [hy341]; with_reducible exact H2_) | (have H2_ := (Option.bind_some _ _).symm.trans H; with_reducible exact H2_) | with_reducible exact H | (rw [hy341]; exact H) | exact H
          have Ny341 := Aside0.mk hy341
          clear hy341
          have H' := Aside0.mk H
          clear H
          go_wp2_with (first | ((with_reducible refine gate_dst (N := 60) rfl ?_); refine Kd.R_lit (Kd.int .i64) _ 3 ?hg (N := 60) ?hd (xs := ([115, 115] : List Int)) (inner := [.int .i64 115, .int .i64 115]) (ok := fun _ => True) (okp := fun _ => True) ?hr ?hp (fun _ hk => hk) trivial (Below.refl _ _) (Nat.le_refl _) (by simp) ?_; (case hd => rfl); (case hg => rfl); (case hr => exact zz29); (case hp => exact (Reps.one (show Kd.M (Kd.int .i64) _ _ _ 115 [.int .i64 115] from rfl) (Reps.one (show Kd.M (Kd.int .i64) _ _ _ 115 [.int .i64 115] from rfl) (Reps.none _ _)))); intro v339 w26 ho27 hb hg_ hnew_; clear hg_ hnew_; (first | rw [← Ny338.out] at ho27 | (simp only [Int.reduceToNat] at ho27; rw [← Ny338.out] at ho27)); have n_ := as3 (Kd.R_elder' zz28 (Kd.R_base ho27) hb) (Kd.R_lower (Kd.R_new' ho27 (Kd.R_lt zz28)) (below_size zz0)) (below_step zz0 hb); clear HO_5 HB; obtain ⟨HO_5, HO340, HB⟩ := n_; clear hb ho27; obtain ⟨Ao29, co29, eo29⟩ := Kd.R_slice HO340.out; subst eo29) | ((with_reducible refine gate_builtin (b := .append) (xs := #[.tmp 59, .tmp 60]) rfl ?_); at_builtin; refine Kd.R_append_rows (Kd.int .i64) (w0 := w) w.heap.size rfl (.tmp 59) (.tmp 60) 72 3 (.int .i64 0) 8 rfl Tryz.underlying72 info3 rfl (by decide) (by omega) u5 x5_1 y338 _ _ _ (fun k_ => some k_ ≠ (.slice Ao29 y338.length co29 : Value).ownBlock) (fun _ => False) rfl rfl ?aO ?aR (fun _ _ h => h) (fun _ h => h.elim) ?aF ?aB ?aS ?aL ?_; (case aR => repeat (first | exact (Kd.R_reads' HO340.out).2.2 | (with_reducible refine Kd.C_alloc ?_ _) | (with_reducible refine Kd.C_drewN ?_ _) | (with_reducible refine Kd.C_drew ?_))); (case aB => exact zz0); (case aF => exact (fun k_ hk => Kd.fresh' (Kd.R_lt (by (with_reducible repeat (first | apply Kd.R_alloc | apply Kd.R_drewN | apply Kd.R_drew)); exact HO340.out)) k_ hk)); (case aO => exact (by (with_reducible repeat (first | apply Kd.R_alloc | apply Kd.R_drewN | apply Kd.R_drew)); exact Kd.R_mono HO_5.out (fun _ hk => hk.2))); (case aS => exact (below_size zz0)); (case aL => have := LMc25.out; omega); intro v342 w28 ho hb hg hat; rw [← Ny341.out] at ho; have n_ := as3 (Kd.R_after (ok := (fun _ => True)) (by (with_reducible repeat (first | apply Kd.R_alloc | apply Kd.R_drewN | apply Kd.R_drew)); exact HO340.out) hg hat) hb ho; clear HO340 HB HO_5; obtain ⟨HO340, HB, HO343⟩ := n_; clear ho hb hg hat))
          go_roundg kj9
          case measure => have := HK1.out; have := HJ9.out; omega
          case rel => exact ⟨(y341), (wrap64 (x6_1 + 1)), zz1, H', ⟨by have := HK1.out; have := HJ9.out; omega⟩, ⟨by (with_reducible repeat (first | apply Kd.R_alloc | apply Kd.R_drewN | apply Kd.R_drew)); exact Kd.R_mono HO343.out (fun _ hk => trivial)⟩, ⟨zz0⟩⟩
         rw [if_neg c25] at H
         exact absurd H (by simp)
        rw [if_neg c24] at H
        obtain ⟨c24b0, c24b1⟩ := eqF c24
        by_cases c30 : x5_1.length < 17592186044416
        ·rw [if_pos c30] at H
         have LMc30 := Aside0.mk c30
         clear c30
         obtain ⟨y344, hy344⟩ : ∃ y_ : List Int, y_ = (x5_1 ++ [(rd l0 x6_1)]) := ⟨_, rfl⟩
         replace H : (cardexref01_mapped.l0 kj9 l0 true y344 (wrap64 (x6_1 + 1))) = some r := by first | (rw [hy344]; with_reducible exact H) | (have H2_ := (Option.bind_some _ _).symm.trans H; rw [hy344]; with_reducible exact H2_) | (have H2_ := (Option.bind_some _ _).symm.trans H; with_reducible exact H2_) | with_reducible exact H | (rw [hy344]; exact H) | exact H
         have Ny344 := Aside0.mk hy344
         clear hy344
         have H' := Aside0.mk H
         clear H
         go_wp2_with (first | ((with_reducible refine gate_builtin (b := .append) (xs := #[.tmp 18, .tmp 20]) rfl ?_); at_builtin; refine Kd.R_append (Kd.int .i64) (w0 := w) w.heap.size rfl (.tmp 18) (.tmp 20) 72 3 (.int .i64 0) 8 rfl Tryz.underlying72 info3 rfl (by decide) (by omega) u5 x5_1 (rd l0 x6_1) [.int .i64 (rd l0 x6_1)] (fun _ => True) (fun _ => False) rfl rfl ?aP (fun _ hk => hk.elim) ?aF ?aO ?aB ?aS ?aL ?_; (case aP => exact rfl); (case aB => exact zz0); (case aF => exact (fun _ _ => trivial)); (case aO => exact zz28); (case aS => exact (below_size zz0)); (case aL => have := LMc30.out; omega); intro v345 w31 ho hb hg hat; rw [← Ny344.out] at ho; have n_ := as2 hb ho; clear HB HO_5; obtain ⟨HB, HO346⟩ := n_; clear ho hb hg hat))
         go_roundg kj9
         case measure => have := HK1.out; have := HJ9.out; omega
         case rel => exact ⟨(y344), (wrap64 (x6_1 + 1)), zz1, H', ⟨by have := HK1.out; have := HJ9.out; omega⟩, ⟨by (with_reducible repeat (first | apply Kd.R_alloc | apply Kd.R_drewN | apply Kd.R_drew)); exact HO346.out⟩, ⟨zz0⟩⟩
        rw [if_neg c30] at H
        exact absurd H (by simp)
       replace c23 := Bool.eq_false_iff.mpr c23
       subst c23
       have H1 : (if x5_1.length < 17592186044416 then (cardexref01_mapped.l0 kj9 l0 false (x5_1 ++ [(rd l0 x6_1)]) (wrap64 (x6_1 + 1))) else (none)) = some r := by rw [if_neg (show ¬ (false = true) by decide)] at H; exact H
       clear H
       have H := H1
       clear H1
       by_cases c32 : x5_1.length < 17592186044416
       ·rw [if_pos c32] at H
        have LMc32 := Aside0.mk c32
        clear c32
        obtain ⟨y347, hy347⟩ : ∃ y_ : List Int, y_ = (x5_1 ++ [(rd l0 x6_1)]) := ⟨_, rfl⟩
        replace H : (cardexref01_mapped.l0 kj9 l0 false y347 (wrap64 (x6_1 + 1))) = some r := by first | (rw [hy347]; with_reducible exact H) | (have H2_ := (Option.bind_some _ _).symm.trans H; rw [hy347]; with_reducible exact H2_) | (have H2_ := (Option.bind_some _ _).symm.trans H; with_reducible exact H2_) | with_reducible exact H | (rw [hy347]; exact H) | exact H
        have Ny347 := Aside0.mk hy347
        clear hy347
        have H' := Aside0.mk H
        clear H
        go_wp2_with (first | ((with_reducible refine gate_builtin (b := .append) (xs := #[.tmp 18, .tmp 20]) rfl ?_); at_builtin; refine Kd.R_append (Kd.int .i64) (w0 := w) w.heap.size rfl (.tmp 18) (.tmp 20) 72 3 (.int .i64 0) 8 rfl Tryz.underlying72 info3 rfl (by decide) (by omega) u5 x5_1 (rd l0 x6_1) [.int .i64 (rd l0 x6_1)] (fun _ => True) (fun _ => False) rfl rfl ?aP (fun _ hk => hk.elim) ?aF ?aO ?aB ?aS ?aL ?_; (case aP => exact rfl); (case aB => exact zz0); (case aF => exact (fun _ _ => trivial)); (case aO => exact zz28); (case aS => exact (below_size zz0)); (case aL => have := LMc32.out; omega); intro v348 w33 ho hb hg hat; rw [← Ny347.out] at ho; have n_ := as2 hb ho; clear HB HO_5; obtain ⟨HB, HO349⟩ := n_; clear ho hb hg hat))
        go_roundg kj9
        case measure => have := HK1.out; have := HJ9.out; omega
        case rel => exact ⟨(y347), (wrap64 (x6_1 + 1)), zz1, H', ⟨by have := HK1.out; have := HJ9.out; omega⟩, ⟨by (with_reducible repeat (first | apply Kd.R_alloc | apply Kd.R_drewN | apply Kd.R_drew)); exact HO349.out⟩, ⟨zz0⟩⟩
       rw [if_neg c32] at H
       exact absurd H (by simp)
    rw [if_neg c4] at H
    exact absurd H (by simp)
   rw [if_neg c3] at H
   have c3b0 := decide_eq_false c3
   clear c3
   obtain rfl := Option.some.inj H
   go_wp2
   go_ret
   exact ⟨_, zz4, zz28, zz0⟩
def cardexref01_Banned.f (k : Nat)  : Option ((List (S119))) := (cardexref01_table.f k (([0, 31, 127, 160, 5760, 5760, 8192, 8202, 8232, 8239, 8287, 8287, 12288, 12288, 57344, 63743, 65533, 65535, 917504, 917631, 983040, 1114111] : List Int))).bind fun t353 => (some t353)
set_option maxHeartbeats 8000000 in
set_option maxRecDepth 100000 in
theorem cardexref01_Banned.calls (k : Nat)  (r : List (S119)) (w : World) (h : cardexref01_Banned.f k  = some r) :
  Calls Tryz.prog 118 #[] w fun e w' => ∃ v0_ : Value, e = .returned (v0_) ∧ Kd.R k119 119 w' w.heap.size (fun _ => True) v0_ r ∧ Below w.heap.size w w' := by
 have HB := Aside0.mk (Below.refl w.heap.size w)
 have H : ((cardexref01_table.f k (([0, 31, 127, 160, 5760, 5760, 8192, 8202, 8232, 8239, 8287, 8287, 12288, 12288, 57344, 63743, 65533, 65535, 917504, 917631, 983040, 1114111] : List Int))).bind fun t353 => (some t353)) = some r := h
 clear h
 obtain ⟨y350, hy350⟩ : ∃ y_ : List Int, y_ = (([0, 31, 127, 160, 5760, 5760, 8192, 8202, 8232, 8239, 8287, 8287, 12288, 12288, 57344, 63743, 65533, 65535, 917504, 917631, 983040, 1114111] : List Int)) := ⟨_, rfl⟩
 replace H : ((cardexref01_table.f k y350).bind fun t353 => (some t353)) = some r := by first | (rw [hy350]; with_reducible exact H) | (have H2_ := (Option.bind_some _ _).symm.trans H; rw [hy350]; with_reducible exact H2_) | (have H2_ := (Option.bind_some _ _).symm.trans H; with_reducible exact H2_) | with_reducible exact H | (rw [hy350]; exact H) | exact H
 have Ny350 := Aside0.mk hy350
 clear hy350
 replace H := Option.bind_eq_some_iff.mp H
 obtain ⟨t353, A10, H⟩ := H
 try dsimp only at H
 have A1 := Aside0.mk A10
 clear A10
 obtain rfl := Option.some.inj H
 go_enter Tryz.func118, Tryz.ntmps118
 go_wp2_with (first | ((with_reducible refine gate_dst (N := 1) rfl ?_); refine Kd.R_lit (Kd.int .i64) _ 3 ?hg (N := 1) ?hd (xs := ([0, 31, 127, 160, 5760, 5760, 8192, 8202, 8232, 8239, 8287, 8287, 12288, 12288, 57344, 63743, 65533, 65535, 917504, 917631, 983040, 1114111] : List Int)) (inner := [.int .i64 0, .int .i64 31, .int .i64 127, .int .i64 160, .int .i64 5760, .int .i64 5760, .int .i64 8192, .int .i64 8202, .int .i64 8232, .int .i64 8239, .int .i64 8287, .int .i64 8287, .int .i64 12288, .int .i64 12288, .int .i64 57344, .int .i64 63743, .int .i64 65533, .int .i64 65535, .int .i64 917504, .int .i64 917631, .int .i64 983040, .int .i64 1114111]) (ok := fun _ => True) (okp := fun _ => True) ?hr ?hp (fun _ hk => hk) trivial (Below.refl _ _) (Nat.le_refl _) (by simp) ?_; (case hd => rfl); (case hg => rfl); (case hr => exact zz29); (case hp => exact (Reps.one (show Kd.M (Kd.int .i64) _ _ _ 0 [.int .i64 0] from rfl) (Reps.one (show Kd.M (Kd.int .i64) _ _ _ 31 [.int .i64 31] from rfl) (Reps.one (show Kd.M (Kd.int .i64) _ _ _ 127 [.int .i64 127] from rfl) (Reps.one (show Kd.M (Kd.int .i64) _ _ _ 160 [.int .i64 160] from rfl) (Reps.one (show Kd.M (Kd.int .i64) _ _ _ 5760 [.int .i64 5760] from rfl) (Reps.one (show Kd.M (Kd.int .i64) _ _ _ 5760 [.int .i64 5760] from rfl) (Reps.one (show Kd.M (Kd.int .i64) _ _ _ 8192 [.int .i64 8192] from rfl) (Reps.one (show Kd.M (Kd.int .i64) _ _ _ 8202 [.int .i64 8202] from rfl) (Reps.one (show Kd.M (Kd.int .i64) _ _ _ 8232 [.int .i64 8232] from rfl) (Reps.one (show Kd.M (Kd.int .i64) _ _ _ 8239 [.int .i64 8239] from rfl) (Reps.one (show Kd.M (Kd.int .i64) _ _ _ 8287 [.int .i64 8287] from rfl) (Reps.one (show Kd.M (Kd.int .i64) _ _ _ 8287 [.int .i64 8287] from rfl) (Reps.one (show Kd.M (Kd.int .i64) _ _ _ 12288 [.int .i64 12288] from rfl) (Reps.one (show Kd.M (Kd.int .i64) _ _ _ 12288 [.int .i64 12288] from rfl) (Reps.one (show Kd.M (Kd.int .i64) _ _ _ 57344 [.int .i64 57344] from rfl) (Reps.one (show Kd.M (Kd.int .i64) _ _ _ 63743 [.int .i64 63743] from rfl) (Reps.one (show Kd.M (Kd.int .i64) _ _ _ 65533 [.int .i64 65533] from rfl) (Reps.one (show Kd.M (Kd.int .i64) _ _ _ 65535 [.int .i64 65535] from rfl) (Reps.one (show Kd.M (Kd.int .i64) _ _ _ 917504 [.int .i64 917504] from rfl) (Reps.one (show Kd.M (Kd.int .i64) _ _ _ 917631 [.int .i64 917631] from rfl) (Reps.one (show Kd.M (Kd.int .i64) _ _ _ 983040 [.int .i64 983040] from rfl) (Reps.one (show Kd.M (Kd.int .i64) _ _ _ 1114111 [.int .i64 1114111] from rfl) (Reps.none _ _)))))))))))))))))))))))); intro v351 w2 ho3 hb hg_ hnew_; clear hg_ hnew_; (first | rw [← Ny350.out] at ho3 | (simp only [Int.reduceToNat] at ho3; rw [← Ny350.out] at ho3)); have n_ := as2 (Kd.R_lower ho3 (below_size zz0)) (below_step zz0 hb); clear HB; obtain ⟨HO352, HB⟩ := n_; clear hb ho3; obtain ⟨Ao4, co4, eo4⟩ := Kd.R_slice HO352.out; subst eo4) | ((with_reducible refine gc 132 ?_); refine gL (some 2) Tryz.func132 #[.slice Ao4 y350.length co4] ?_; (with_reducible refine (cardexref01_table.calls k _ _ y350 t353 _ ?side1 ?side2 A1.out).mono ?_); (case side1 => exact (by repeat (first | exact (Kd.R_reads' HO352.out).2.2 | (with_reducible refine Kd.C_alloc ?_ _) | (with_reducible refine Kd.C_drewN ?_ _) | (with_reducible refine Kd.C_drew ?_)))); (case side2 => exact (Kd.R_reads' HO352.out).2.1); rintro e w5 ⟨v354, rfl, ho0, hb⟩; refine ⟨_, rfl, ?_⟩; have n_ := as3 (Kd.R_below (by (with_reducible repeat (first | apply Kd.R_alloc | apply Kd.R_drewN | apply Kd.R_drew)); exact HO352.out) hb) (Kd.R_lower ho0 (below_size zz0)) (below_step zz0 hb); clear HO352 HB; obtain ⟨HO352, HO355, HB⟩ := n_; (try clear hb ho0)))
 go_ret
 exact ⟨_, zz4, by (with_reducible repeat (first | apply Kd.R_alloc | apply Kd.R_drewN | apply Kd.R_drew)); exact HO355.out, zz0⟩
def cardexhelp_In_int.l0 : Nat → List Int → Int → Int → Option (Bool)
 | 0, _, _, _ => none
 | k + 1, x0, x1, x5 => if x5 < (x0.length : Int) then (if 0 ≤ x5 then (if (rd x0 x5) = x1 then (some true) else (cardexhelp_In_int.l0 k x0 x1 (wrap64 (x5 + 1)))) else (none)) else (some false)
def cardexhelp_In_int.f (k : Nat) (l0 : List Int) (a1 : Int) : Option (Bool) := cardexhelp_In_int.l0 k l0 a1 0
theorem lf22 {P : Prop} (h : P := by
 go_wp2
 first
  | (go_ret; exact ⟨zz1, zz17⟩)
  | (go_roundg k1; (case measure => have := HK1.out; omega); (case rel => exact ⟨(wrap64 (x5_1 + 1)), zz1, H', ⟨zz58⟩, zz17⟩))) : P := h
set_option maxHeartbeats 8000000 in
set_option maxRecDepth 100000 in
theorem cardexhelp_In_int.calls (k : Nat) (A0 : Option Addr) (c0 : Nat) (l0 : List Int) (a1 : Int) (r : Bool) (w : World) (hr0 : Kd.C (Kd.int .i64) w A0 l0.length l0) (hc0 : l0.length ≤ c0) (h : cardexhelp_In_int.f k l0 a1 = some r) :
  Calls Tryz.prog 119 #[.slice A0 l0.length c0, .int .i64 a1] w fun e w' => e = .returned (.bool r) ∧ Drawn0 w w' := by
 have HR0 := Aside0.mk hr0
 have HC0 := Aside0.mk hc0
 clear hr0 hc0
 have H : (cardexhelp_In_int.l0 k l0 a1 0) = some r := h
 clear h
 have H' := Aside0.mk H
 clear H
 go_enter Tryz.func119, Tryz.ntmps119
 go_wp2
 go_loopg [5] k (fun kq v5 w' => ∃ (x5_1 : Int), v5 = .int .i64 x5_1 ∧ Aside0 (cardexhelp_In_int.l0 kq l0 a1 x5_1 = some r) ∧ Aside0 (kq ≤ k) ∧ Drawn0 w w')
 case atStart => exact ⟨(0), zz1, H', ⟨Nat.le_refl _⟩, zz17⟩
 case round =>
  clear H'
  try clear c1
  try clear p2
  obtain ⟨x5_1, rfl, HA, HK1, ⟨m1, rfl⟩⟩ := hrel
  cases gk with
  | zero => exact absurd HA.out (by simp [cardexhelp_In_int.l0])
  | succ k1 =>
   have H := HA.out
   clear HA
   simp only [cardexhelp_In_int.l0] at H
   by_cases c3 : x5_1 < (l0.length : Int)
   ·rw [if_pos c3] at H
    have c3b0 := decide_eq_true c3
    clear c3
    by_cases c4 : 0 ≤ x5_1
    ·rw [if_pos c4] at H
     have c4b0 := decide_eq_true c4
     clear c4
     by_cases c5 : (rd l0 x5_1) = a1
     ·rw [if_pos c5] at H
      obtain ⟨c5b0, c5b1⟩ := eqT c5
      clear c5
      obtain rfl := Option.some.inj H
      have p356 : 0 ≤ (x5_1 : Int) := of_decide_eq_true zz6
      have q356 : x5_1 < (l0.length : Int) := of_decide_eq_true zz6
      obtain ⟨ad356, e356, hx356_0⟩ := Kd.at_int HR0.out x5_1 p356 q356
      cases e356
      replace p356 := eq_true p356
      replace q356 := eq_true q356
      exact lf22
     rw [if_neg c5] at H
     obtain ⟨c5b0, c5b1⟩ := eqF c5
     have H' := Aside0.mk H
     clear H
     have p356 : 0 ≤ (x5_1 : Int) := of_decide_eq_true zz6
     have q356 : x5_1 < (l0.length : Int) := of_decide_eq_true zz6
     obtain ⟨ad356, e356, hx356_0⟩ := Kd.at_int HR0.out x5_1 p356 q356
     cases e356
     replace p356 := eq_true p356
     replace q356 := eq_true q356
     exact lf22
    rw [if_neg c4] at H
    exact absurd H (by simp)
   rw [if_neg c3] at H
   have c3b0 := decide_eq_false c3
   clear c3
   obtain rfl := Option.some.inj H
   exact lf22
def cardexref01_Letters.f (k : Nat)  : Option ((List (S119))) := (cardexref01_table.f k (([65, 90, 97, 122, 192, 214, 216, 246, 248, 591, 880, 1327, 19968, 40959] : List Int))).bind fun t360 => (some t360)
set_option maxHeartbeats 8000000 in
set_option maxRecDepth 100000 in
theorem cardexref01_Letters.calls (k : Nat)  (r : List (S119)) (w : World) (h : cardexref01_Letters.f k  = some r) :
  Calls Tryz.prog 120 #[] w fun e w' => ∃ v0_ : Value, e = .returned (v0_) ∧ Kd.R k119 119 w' w.heap.size (fun _ => True) v0_ r ∧ Below w.heap.size w w' := by
 have HB := Aside0.mk (Below.refl w.heap.size w)
 have H : ((cardexref01_table.f k (([65, 90, 97, 122, 192, 214, 216, 246, 248, 591, 880, 1327, 19968, 40959] : List Int))).bind fun t360 => (some t360)) = some r := h
 clear h
 obtain ⟨y357, hy357⟩ : ∃ y_ : List Int, y_ = (([65, 90, 97, 122, 192, 214, 216, 246, 248, 591, 880, 1327, 19968, 40959] : List Int)) := ⟨_, rfl⟩
 replace H : ((cardexref01_table.f k y357).bind fun t360 => (some t360)) = some r := by first | (rw [hy357]; with_reducible exact H) | (have H2_ := (Option.bind_some _ _).symm.trans H; rw [hy357]; with_reducible exact H2_) | (have H2_ := (Option.bind_some _ _).symm.trans H; with_reducible exact H2_) | with_reducible exact H | (rw [hy357]; exact H) | exact H
 have Ny357 := Aside0.mk hy357
 clear hy357
 replace H := Option.bind_eq_some_iff.mp H
 obtain ⟨t360, A10, H⟩ := H
 try dsimp only at H
 have A1 := Aside0.mk A10
 clear A10
 obtain rfl := Option.some.inj H
 go_enter Tryz.func120, Tryz.ntmps120
 go_wp2_with (first | ((with_reducible refine gate_dst (N := 1) rfl ?_); refine Kd.R_lit (Kd.int .i64) _ 3 ?hg (N := 1) ?hd (xs := ([65, 90, 97, 122, 192, 214, 216, 246, 248, 591, 880, 1327, 19968, 40959] : List Int)) (inner := [.int .i64 65, .int .i64 90, .int .i64 97, .int .i64 122, .int .i64 192, .int .i64 214, .int .i64 216, .int .i64 246, .int .i64 248, .int .i64 591, .int .i64 880, .int .i64 1327, .int .i64 19968, .int .i64 40959]) (ok := fun _ => True) (okp := fun _ => True) ?hr ?hp (fun _ hk => hk) trivial (Below.refl _ _) (Nat.le_refl _) (by simp) ?_; (case hd => rfl); (case hg => rfl); (case hr => exact zz29); (case hp => exact (Reps.one (show Kd.M (Kd.int .i64) _ _ _ 65 [.int .i64 65] from rfl) (Reps.one (show Kd.M (Kd.int .i64) _ _ _ 90 [.int .i64 90] from rfl) (Reps.one (show Kd.M (Kd.int .i64) _ _ _ 97 [.int .i64 97] from rfl) (Reps.one (show Kd.M (Kd.int .i64) _ _ _ 122 [.int .i64 122] from rfl) (Reps.one (show Kd.M (Kd.int .i64) _ _ _ 192 [.int .i64 192] from rfl) (Reps.one (show Kd.M (Kd.int .i64) _ _ _ 214 [.int .i64 214] from rfl) (Reps.one (show Kd.M (Kd.int .i64) _ _ _ 216 [.int .i64 216] from rfl) (Reps.one (show Kd.M (Kd.int .i64) _ _ _ 246 [.int .i64 246] from rfl) (Reps.one (show Kd.M (Kd.int .i64) _ _ _ 248 [.int .i64 248] from rfl) (Reps.one (show Kd.M (Kd.int .i64) _ _ _ 591 [.int .i64 591] from rfl) (Reps.one (show Kd.M (Kd.int .i64) _ _ _ 880 [.int .i64 880] from rfl) (Reps.one (show Kd.M (Kd.int .i64) _ _ _ 1327 [.int .i64 1327] from rfl) (Reps.one (show Kd.M (Kd.int .i64) _ _ _ 19968 [.int .i64 19968] from rfl) (Reps.one (show Kd.M (Kd.int .i64) _ _ _ 40959 [.int .i64 40959] from rfl) (Reps.none _ _)))))))))))))))); intro v358 w2 ho3 hb hg_ hnew_; clear hg_ hnew_; (first | rw [← Ny357.out] at ho3 | (simp only [Int.reduceToNat] at ho3; rw [← Ny357.out] at ho3)); have n_ := as2 (Kd.R_lower ho3 (below_size zz0)) (below_step zz0 hb); clear HB; obtain ⟨HO359, HB⟩ := n_; clear hb ho3; obtain ⟨Ao4, co4, eo4⟩ := Kd.R_slice HO359.out; subst eo4) | ((with_reducible refine gc 132 ?_); refine gL (some 2) Tryz.func132 #[.slice Ao4 y357.length co4] ?_; (with_reducible refine (cardexref01_table.calls k _ _ y357 t360 _ ?side1 ?side2 A1.out).mono ?_); (case side1 => exact (by repeat (first | exact (Kd.R_reads' HO359.out).2.2 | (with_reducible refine Kd.C_alloc ?_ _) | (with_reducible refine Kd.C_drewN ?_ _) | (with_reducible refine Kd.C_drew ?_)))); (case side2 => exact (Kd.R_reads' HO359.out).2.1); rintro e w5 ⟨v361, rfl, ho0, hb⟩; refine ⟨_, rfl, ?_⟩; have n_ := as3 (Kd.R_below (by (with_reducible repeat (first | apply Kd.R_alloc | apply Kd.R_drewN | apply Kd.R_drew)); exact HO359.out) hb) (Kd.R_lower ho0 (below_size zz0)) (below_step zz0 hb); clear HO359 HB; obtain ⟨HO359, HO362, HB⟩ := n_; (try clear hb ho0)))
 go_ret
 exact ⟨_, zz4, by (with_reducible repeat (first | apply Kd.R_alloc | apply Kd.R_drewN | apply Kd.R_drew)); exact HO362.out, zz0⟩
def cardexref01_RightLeft.f (k : Nat)  : Option ((List (S119))) := (cardexref01_table.f k (([1424, 1535, 1536, 1791, 64285, 64335] : List Int))).bind fun t366 => (some t366)
set_option maxHeartbeats 8000000 in
set_option maxRecDepth 100000 in
theorem cardexref01_RightLeft.calls (k : Nat)  (r : List (S119)) (w : World) (h : cardexref01_RightLeft.f k  = some r) :
  Calls Tryz.prog 121 #[] w fun e w' => ∃ v0_ : Value, e = .returned (v0_) ∧ Kd.R k119 119 w' w.heap.size (fun _ => True) v0_ r ∧ Below w.heap.size w w' := by
 have HB := Aside0.mk (Below.refl w.heap.size w)
 have H : ((cardexref01_table.f k (([1424, 1535, 1536, 1791, 64285, 64335] : List Int))).bind fun t366 => (some t366)) = some r := h
 clear h
 obtain ⟨y363, hy363⟩ : ∃ y_ : List Int, y_ = (([1424, 1535, 1536, 1791, 64285, 64335] : List Int)) := ⟨_, rfl⟩
 replace H : ((cardexref01_table.f k y363).bind fun t366 => (some t366)) = some r := by first | (rw [hy363]; with_reducible exact H) | (have H2_ := (Option.bind_some _ _).symm.trans H; rw [hy363]; with_reducible exact H2_) | (have H2_ := (Option.bind_some _ _).symm.trans H; with_reducible exact H2_) | with_reducible exact H | (rw [hy363]; exact H) | exact H
 have Ny363 := Aside0.mk hy363
 clear hy363
 replace H := Option.bind_eq_some_iff.mp H
 obtain ⟨t366, A10, H⟩ := H
 try dsimp only at H
 have A1 := Aside0.mk A10
 clear A10
 obtain rfl := Option.some.inj H
 go_enter Tryz.func121, Tryz.ntmps121
 go_wp2_with (first | ((with_reducible refine gate_dst (N := 1) rfl ?_); refine Kd.R_lit (Kd.int .i64) _ 3 ?hg (N := 1) ?hd (xs := ([1424, 1535, 1536, 1791, 64285, 64335] : List Int)) (inner := [.int .i64 1424, .int .i64 1535, .int .i64 1536, .int .i64 1791, .int .i64 64285, .int .i64 64335]) (ok := fun _ => True) (okp := fun _ => True) ?hr ?hp (fun _ hk => hk) trivial (Below.refl _ _) (Nat.le_refl _) (by simp) ?_; (case hd => rfl); (case hg => rfl); (case hr => exact zz29); (case hp => exact (Reps.one (show Kd.M (Kd.int .i64) _ _ _ 1424 [.int .i64 1424] from rfl) (Reps.one (show Kd.M (Kd.int .i64) _ _ _ 1535 [.int .i64 1535] from rfl) (Reps.one (show Kd.M (Kd.int .i64) _ _ _ 1536 [.int .i64 1536] from rfl) (Reps.one (show Kd.M (Kd.int .i64) _ _ _ 1791 [.int .i64 1791] from rfl) (Reps.one (show Kd.M (Kd.int .i64) _ _ _ 64285 [.int .i64 64285] from rfl) (Reps.one (show Kd.M (Kd.int .i64) _ _ _ 64335 [.int .i64 64335] from rfl) (Reps.none _ _)))))))); intro v364 w2 ho3 hb hg_ hnew_; clear hg_ hnew_; (first | rw [← Ny363.out] at ho3 | (simp only [Int.reduceToNat] at ho3; rw [← Ny363.out] at ho3)); have n_ := as2 (Kd.R_lower ho3 (below_size zz0)) (below_step zz0 hb); clear HB; obtain ⟨HO365, HB⟩ := n_; clear hb ho3; obtain ⟨Ao4, co4, eo4⟩ := Kd.R_slice HO365.out; subst eo4) | ((with_reducible refine gc 132 ?_); refine gL (some 2) Tryz.func132 #[.slice Ao4 y363.length co4] ?_; (with_reducible refine (cardexref01_table.calls k _ _ y363 t366 _ ?side1 ?side2 A1.out).mono ?_); (case side1 => exact (by repeat (first | exact (Kd.R_reads' HO365.out).2.2 | (with_reducible refine Kd.C_alloc ?_ _) | (with_reducible refine Kd.C_drewN ?_ _) | (with_reducible refine Kd.C_drew ?_)))); (case side2 => exact (Kd.R_reads' HO365.out).2.1); rintro e w5 ⟨v367, rfl, ho0, hb⟩; refine ⟨_, rfl, ?_⟩; have n_ := as3 (Kd.R_below (by (with_reducible repeat (first | apply Kd.R_alloc | apply Kd.R_drewN | apply Kd.R_drew)); exact HO365.out) hb) (Kd.R_lower ho0 (below_size zz0)) (below_step zz0 hb); clear HO365 HB; obtain ⟨HO365, HO368, HB⟩ := n_; (try clear hb ho0)))
 go_ret
 exact ⟨_, zz4, by (with_reducible repeat (first | apply Kd.R_alloc | apply Kd.R_drewN | apply Kd.R_drew)); exact HO368.out, zz0⟩
end Go.Proofs.YtaekklpphlcngaaGreatDoor.Q
