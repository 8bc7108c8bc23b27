-- Written by hookprint.py (wip/) of this session: the kit's print with hand-proved functions beside it. Not trusted: Lean checks it.
import Derived.Test.YtaekklpphlcngaaGreatDoorQ0
import Derived.Test.YtaekklpphlcngaaGreatDoorQ7
namespace Go.Proofs.YtaekklpphlcngaaGreatDoor.Q
open List (setIfInBounds_toArray set_cons_zero set_cons_succ)
open Go.RowKit Go.Lib Go.Proofs.YtaekklpphlcngaaGreatDoorX Go.Proofs.YtaekklpphlcngaaGreatDoorW.PrintWords Go.Proofs.YtaekklpphlcngaaGreatDoorW.PrintLast Go.Proofs.YtaekklpphlcngaaGreatDoorW.PrintMore
set_option linter.unusedVariables false
set_option linter.unusedSimpArgs false
def cardexref01_Char.f (a0 : Int) : Option (Bool) := if a0 = 9 then (some true) else (if a0 = 10 then (some true) else (if a0 = 13 then (some true) else (if a0 ≥ 32 then (if a0 < 55296 then (some true) else (if a0 > 57343 then (if a0 < 65534 then (some true) else (if a0 > 65535 then (some (decide (a0 ≤ 1114111))) else (some false))) else (if a0 > 65535 then (some (decide (a0 ≤ 1114111))) else (some false)))) else (if a0 > 57343 then (if a0 < 65534 then (some true) else (if a0 > 65535 then (some (decide (a0 ≤ 1114111))) else (some false))) else (if a0 > 65535 then (some (decide (a0 ≤ 1114111))) else (some false))))))
theorem lf18 {P : Prop} (h : P := by
 go_enter Tryz.func81, Tryz.ntmps81
 go_wp2
 go_ret; exact ⟨zz1, zz17⟩) : P := h
set_option maxHeartbeats 8000000 in
set_option maxRecDepth 100000 in
theorem cardexref01_Char.calls (a0 : Int) (r : Bool) (w : World) (h : cardexref01_Char.f a0 = some r) :
  Calls Tryz.prog 81 #[.int .i64 a0] w fun e w' => e = .returned (.bool r) ∧ Drawn0 w w' := by
 have H : (if a0 = 9 then (some true) else (if a0 = 10 then (some true) else (if a0 = 13 then (some true) else (if a0 ≥ 32 then (if a0 < 55296 then (some true) else (if a0 > 57343 then (if a0 < 65534 then (some true) else (if a0 > 65535 then (some (decide (a0 ≤ 1114111))) else (some false))) else (if a0 > 65535 then (some (decide (a0 ≤ 1114111))) else (some false)))) else (if a0 > 57343 then (if a0 < 65534 then (some true) else (if a0 > 65535 then (some (decide (a0 ≤ 1114111))) else (some false))) else (if a0 > 65535 then (some (decide (a0 ≤ 1114111))) else (some false))))))) = some r := h
 clear h
 by_cases c2 : a0 = 9
 ·rw [if_pos c2] at H
  obtain ⟨c2b0, c2b1⟩ := eqT c2
  clear c2
  obtain rfl := Option.some.inj H
  exact lf18
 rw [if_neg c2] at H
 obtain ⟨c2b0, c2b1⟩ := eqF c2
 by_cases c3 : a0 = 10
 ·rw [if_pos c3] at H
  obtain ⟨c3b0, c3b1⟩ := eqT c3
  clear c3
  obtain rfl := Option.some.inj H
  exact lf18
 rw [if_neg c3] at H
 obtain ⟨c3b0, c3b1⟩ := eqF c3
 by_cases c4 : a0 = 13
 ·rw [if_pos c4] at H
  obtain ⟨c4b0, c4b1⟩ := eqT c4
  clear c4
  obtain rfl := Option.some.inj H
  exact lf18
 rw [if_neg c4] at H
 obtain ⟨c4b0, c4b1⟩ := eqF c4
 by_cases c5 : a0 ≥ 32
 ·rw [if_pos c5] at H
  have c5b0 := decide_eq_true c5
  clear c5
  by_cases c6 : a0 < 55296
  ·rw [if_pos c6] at H
   have c6b0 := decide_eq_true c6
   clear c6
   obtain rfl := Option.some.inj H
   exact lf18
  rw [if_neg c6] at H
  have c6b0 := decide_eq_false c6
  clear c6
  by_cases c7 : a0 > 57343
  ·rw [if_pos c7] at H
   have c7b0 := decide_eq_true c7
   clear c7
   by_cases c8 : a0 < 65534
   ·rw [if_pos c8] at H
    have c8b0 := decide_eq_true c8
    clear c8
    obtain rfl := Option.some.inj H
    exact lf18
   rw [if_neg c8] at H
   have c8b0 := decide_eq_false c8
   clear c8
   by_cases c9 : a0 > 65535
   ·rw [if_pos c9] at H
    have c9b0 := decide_eq_true c9
    clear c9
    obtain rfl := Option.some.inj H
    exact lf18
   rw [if_neg c9] at H
   have c9b0 := decide_eq_false c9
   clear c9
   obtain rfl := Option.some.inj H
   exact lf18
  rw [if_neg c7] at H
  have c7b0 := decide_eq_false c7
  clear c7
  by_cases c10 : a0 > 65535
  ·rw [if_pos c10] at H
   have c10b0 := decide_eq_true c10
   clear c10
   obtain rfl := Option.some.inj H
   exact lf18
  rw [if_neg c10] at H
  have c10b0 := decide_eq_false c10
  clear c10
  obtain rfl := Option.some.inj H
  exact lf18
 rw [if_neg c5] at H
 have c5b0 := decide_eq_false c5
 clear c5
 by_cases c11 : a0 > 57343
 ·rw [if_pos c11] at H
  have c11b0 := decide_eq_true c11
  clear c11
  by_cases c12 : a0 < 65534
  ·rw [if_pos c12] at H
   have c12b0 := decide_eq_true c12
   clear c12
   obtain rfl := Option.some.inj H
   exact lf18
  rw [if_neg c12] at H
  have c12b0 := decide_eq_false c12
  clear c12
  by_cases c13 : a0 > 65535
  ·rw [if_pos c13] at H
   have c13b0 := decide_eq_true c13
   clear c13
   obtain rfl := Option.some.inj H
   exact lf18
  rw [if_neg c13] at H
  have c13b0 := decide_eq_false c13
  clear c13
  obtain rfl := Option.some.inj H
  exact lf18
 rw [if_neg c11] at H
 have c11b0 := decide_eq_false c11
 clear c11
 by_cases c14 : a0 > 65535
 ·rw [if_pos c14] at H
  have c14b0 := decide_eq_true c14
  clear c14
  obtain rfl := Option.some.inj H
  exact lf18
 rw [if_neg c14] at H
 have c14b0 := decide_eq_false c14
 clear c14
 obtain rfl := Option.some.inj H
 exact lf18
def cardexref01_Next.f (k : Nat) (a0 : ByteArray) (a1 : Int) : Option (Int × Int) := (cardexref01_decode.f k a0 a1).bind fun bt306 => (if bt306.2 = 0 then (some (0, 0)) else ((cardexref01_Char.f bt306.1).bind fun t308 => (if t308 = true then (some (bt306.1, bt306.2)) else (some (0, 0)))))
theorem lf19 {P : Prop} (h : P := by
 go_enter Tryz.func60, Tryz.ntmps60
 go_wp2_with (first | ((with_reducible refine gc 80 ?_); refine gL (some 11) Tryz.func80 #[.string a0, .int .i64 a1] ?_; (with_reducible refine (cardexref01_decode.calls k a0 a1 t306 t307 _ A3.out).mono ?_); rintro e w' ⟨rfl, ⟨nd, rfl⟩⟩; refine ⟨_, rfl, ?_⟩) | (go_at_call 81; (with_reducible refine (cardexref01_Char.calls t306 true _ A5.out).mono ?_); rintro e w' ⟨rfl, ⟨nd, rfl⟩⟩) | (go_at_call 81; (with_reducible refine (cardexref01_Char.calls t306 false _ A5.out).mono ?_); rintro e w' ⟨rfl, ⟨nd, rfl⟩⟩))
 go_ret2; exact ⟨zz1, zz17⟩) : P := h
set_option maxHeartbeats 8000000 in
set_option maxRecDepth 100000 in
theorem cardexref01_Next.calls (k : Nat) (a0 : ByteArray) (a1 : Int) (r1 : Int) (r2 : Int) (w : World) (h : cardexref01_Next.f k a0 a1 = some (r1, r2)) :
  Calls Tryz.prog 60 #[.string a0, .int .i64 a1] w fun e w' => e = .returned (.tuple #[.int .i64 r1, .int .i64 r2]) ∧ Drawn0 w w' := by
 have H : ((cardexref01_decode.f k a0 a1).bind fun bt306 => (if bt306.2 = 0 then (some (0, 0)) else ((cardexref01_Char.f bt306.1).bind fun t308 => (if t308 = true then (some (bt306.1, bt306.2)) else (some (0, 0)))))) = some (r1, r2) := h
 clear h
 replace H := Option.bind_eq_some_iff.mp H
 obtain ⟨⟨t306, t307⟩, A30, H⟩ := H
 try dsimp only at H
 have A3 := Aside0.mk A30
 clear A30
 by_cases c4 : t307 = 0
 ·rw [if_pos c4] at H
  obtain ⟨c4b0, c4b1⟩ := eqT c4
  clear c4
  simp only [Option.some.injEq, Prod.mk.injEq] at H
  obtain ⟨rfl, rfl⟩ := H
  exact lf19
 rw [if_neg c4] at H
 obtain ⟨c4b0, c4b1⟩ := eqF c4
 replace H := Option.bind_eq_some_iff.mp H
 obtain ⟨t308, A50, H⟩ := H
 try dsimp only at H
 have A5 := Aside0.mk A50
 clear A50
 by_cases c6 : t308 = true
 ·subst c6
  have H1 : (some (t306, t307)) = some (r1, r2) := by rw [if_pos rfl] at H; exact H
  clear H
  have H := H1
  clear H1
  simp only [Option.some.injEq, Prod.mk.injEq] at H
  obtain ⟨rfl, rfl⟩ := H
  exact lf19
 replace c6 := Bool.eq_false_iff.mpr c6
 subst c6
 have H1 : (some (0, 0)) = some (r1, r2) := by rw [if_neg (show ¬ (false = true) by decide)] at H; exact H
 clear H
 have H := H1
 clear H1
 simp only [Option.some.injEq, Prod.mk.injEq] at H
 obtain ⟨rfl, rfl⟩ := H
 exact lf19
def cardexref01_Valid.l0 : Nat → ByteArray → Int → Option (Bool)
 | 0, _, _ => none
 | k + 1, x0, x3 => if x3 < (x0.size : Int) then ((cardexref01_Next.f k x0 x3).bind fun bt309 => (if bt309.2 = 0 then (some false) else (cardexref01_Valid.l0 k x0 (wrap64 (x3 + bt309.2))))) else (some true)
def cardexref01_Valid.f (k : Nat) (a0 : ByteArray) : Option (Bool) := cardexref01_Valid.l0 k a0 0
theorem lf20 {P : Prop} (h : P := by
 go_wp2_with (first | ((with_reducible refine gc 60 ?_); refine gL (some 13) Tryz.func60 #[.string a0, .int .i64 x3_1] ?_; (with_reducible refine (cardexref01_Next.calls k1 a0 x3_1 t309 t310 _ A3.out).mono ?_); rintro e w' ⟨rfl, ⟨nd, rfl⟩⟩; refine ⟨_, rfl, ?_⟩))
 first
  | (go_ret; exact ⟨zz1, zz17⟩)
  | (go_roundg k1; (case measure => have := HK1.out; omega); (case rel => exact ⟨(wrap64 (x3_1 + t310)), zz1, H', ⟨zz58⟩, zz17⟩))) : P := h
set_option maxHeartbeats 8000000 in
set_option maxRecDepth 100000 in
theorem cardexref01_Valid.calls (k : Nat) (a0 : ByteArray) (r : Bool) (w : World) (h : cardexref01_Valid.f k a0 = some r) :
  Calls Tryz.prog 45 #[.string a0] w fun e w' => e = .returned (.bool r) ∧ Drawn0 w w' := by
 have H : (cardexref01_Valid.l0 k a0 0) = some r := h
 clear h
 have H' := Aside0.mk H
 clear H
 go_enter Tryz.func45, Tryz.ntmps45
 go_wp2
 go_loopg [3] k (fun kq v3 w' => ∃ (x3_1 : Int), v3 = .int .i64 x3_1 ∧ Aside0 (cardexref01_Valid.l0 kq a0 x3_1 = some r) ∧ Aside0 (kq ≤ k) ∧ Drawn0 w w')
 case atStart => exact ⟨(0), zz1, H', ⟨Nat.le_refl _⟩, zz17⟩
 case round =>
  clear H'
  obtain ⟨x3_1, rfl, HA, HK1, ⟨m1, rfl⟩⟩ := hrel
  cases gk with
  | zero => exact absurd HA.out (by simp [cardexref01_Valid.l0])
  | succ k1 =>
   have H := HA.out
   clear HA
   simp only [cardexref01_Valid.l0] at H
   by_cases c2 : x3_1 < (a0.size : Int)
   ·rw [if_pos c2] at H
    have c2b0 := decide_eq_true c2
    clear c2
    replace H := Option.bind_eq_some_iff.mp H
    obtain ⟨⟨t309, t310⟩, A30, H⟩ := H
    try dsimp only at H
    have A3 := Aside0.mk A30
    clear A30
    by_cases c4 : t310 = 0
    ·rw [if_pos c4] at H
     obtain ⟨c4b0, c4b1⟩ := eqT c4
     clear c4
     obtain rfl := Option.some.inj H
     exact lf20
    rw [if_neg c4] at H
    obtain ⟨c4b0, c4b1⟩ := eqF c4
    have H' := Aside0.mk H
    clear H
    exact lf20
   rw [if_neg c2] at H
   have c2b0 := decide_eq_false c2
   clear c2
   obtain rfl := Option.some.inj H
   exact lf20
def cardexref01_Runes.l0 : Nat → ByteArray → List Int → Int → Option (List Int)
 | 0, _, _, _ => none
 | k + 1, x0, x3, x4 => if x4 < (x0.size : Int) then ((cardexref01_Next.f k x0 x4).bind fun bt312 => (if x3.length < 17592186044416 then (cardexref01_Runes.l0 k x0 (x3 ++ [bt312.1]) (wrap64 (x4 + bt312.2))) else (none))) else (some x3)
def cardexref01_Runes.f (k : Nat) (a0 : ByteArray) : Option (List Int) := (cardexref01_Valid.f k a0).bind fun t311 => (if t311 = true then (cardexref01_Runes.l0 k a0 ([] : List Int) 0) else (some ([] : List Int)))
set_option maxHeartbeats 8000000 in
set_option maxRecDepth 100000 in
theorem cardexref01_Runes.calls (k : Nat) (a0 : ByteArray) (r : List Int) (w : World) (h : cardexref01_Runes.f k a0 = some r) :
  Calls Tryz.prog 44 #[.string a0] w fun e w' => ∃ v0_ : Value, e = .returned (v0_) ∧ Kd.R (Kd.int .i64) 3 w' w.heap.size (fun _ => True) v0_ r ∧ Below w.heap.size w w' := by
 have HB := Aside0.mk (Below.refl w.heap.size w)
 have H : ((cardexref01_Valid.f k a0).bind fun t311 => (if t311 = true then (cardexref01_Runes.l0 k a0 ([] : List Int) 0) else (some ([] : List Int)))) = some r := h
 clear h
 replace H := Option.bind_eq_some_iff.mp H
 obtain ⟨t311, A20, H⟩ := H
 try dsimp only at H
 have A2 := Aside0.mk A20
 clear A20
 by_cases c3 : t311 = true
 ·subst c3
  have H1 : (cardexref01_Runes.l0 k a0 ([] : List Int) 0) = some r := by rw [if_pos rfl] at H; exact H
  clear H
  have H := H1
  clear H1
  have H' := Aside0.mk H
  clear H
  go_enter Tryz.func44, Tryz.ntmps44
  go_wp2_with (first | ((with_reducible refine gc 45 ?_); refine gL (some 8) Tryz.func45 #[.string a0] ?_; (with_reducible refine (cardexref01_Valid.calls k a0 true _ A2.out).mono ?_); rintro e w' ⟨rfl, ⟨nd, rfl⟩⟩; refine ⟨_, rfl, ?_⟩))
  go_loopg [3, 4] k (fun kq v3 v4 w' => ∃ (x3_1 : List Int) (x4_1 : Int), v4 = .int .i64 x4_1 ∧ Aside0 (cardexref01_Runes.l0 kq a0 x3_1 x4_1 = some r) ∧ Aside0 (kq ≤ k) ∧ Aside0 (Kd.R (Kd.int .i64) 3 w' w.heap.size (fun _ => True) v3 x3_1) ∧ Aside0 (Below w.heap.size w w'))
  case atStart => exact ⟨(([] : List Int)), (0), zz1, H', ⟨Nat.le_refl _⟩, ⟨zz46⟩, ⟨zz0⟩⟩
  case round =>
   clear H'
   try clear p2
   try clear c3
   obtain ⟨x3_1, x4_1, rfl, HA, HK1, HO_3, HB⟩ := hrel
   cases gk with
   | zero => exact absurd HA.out (by simp [cardexref01_Runes.l0])
   | succ k1 =>
    have H := HA.out
    clear HA
    simp only [cardexref01_Runes.l0] at H
    by_cases c4 : x4_1 < (a0.size : Int)
    ·rw [if_pos c4] at H
     have c4b0 := decide_eq_true c4
     clear c4
     replace H := Option.bind_eq_some_iff.mp H
     obtain ⟨⟨t312, t313⟩, A50, H⟩ := H
     try dsimp only at H
     have A5 := Aside0.mk A50
     clear A50
     by_cases c6 : x3_1.length < 17592186044416
     ·rw [if_pos c6] at H
      have LMc6 := Aside0.mk c6
      clear c6
      obtain ⟨y314, hy314⟩ : ∃ y_ : List Int, y_ = (x3_1 ++ [t312]) := ⟨_, rfl⟩
      replace H : (cardexref01_Runes.l0 k1 a0 y314 (wrap64 (x4_1 + t313))) = some r := by first | (rw [hy314]; with_reducible exact H) | (have H2_ := (Option.bind_some _ _).symm.trans H; rw [hy314]; with_reducible exact H2_) | (have H2_ := (Option.bind_some _ _).symm.trans H; with_reducible exact H2_) | with_reducible exact H | (rw [hy314]; exact H) | exact H
      have Ny314 := Aside0.mk hy314
      clear hy314
      have H' := Aside0.mk H
      clear H
      go_wp2_with (first | ((with_reducible refine gc 60 ?_); refine gL (some 17) Tryz.func60 #[.string a0, .int .i64 x4_1] ?_; (with_reducible refine (cardexref01_Next.calls k1 a0 x4_1 t312 t313 _ A5.out).mono ?_); rintro e w' ⟨rfl, ⟨nd, rfl⟩⟩; refine ⟨_, rfl, ?_⟩) | ((with_reducible refine gate_builtin (b := .append) (xs := #[.tmp 20, .tmp 22]) rfl ?_); at_builtin; refine Kd.R_append (Kd.int .i64) (w0 := w) w.heap.size rfl (.tmp 20) (.tmp 22) 72 3 (.int .i64 0) 8 rfl Tryz.underlying72 info3 rfl (by decide) (by omega) u3 x3_1 t312 [.int .i64 t312] (fun _ => True) (fun _ => False) rfl rfl ?aP (fun _ hk => hk.elim) ?aF ?aO ?aB ?aS ?aL ?_; (case aP => exact rfl); (case aB => exact zz0); (case aF => exact (fun _ _ => trivial)); (case aO => exact zz75); (case aS => exact (below_size zz0)); (case aL => have := LMc6.out; omega); intro v315 w7 ho hb hg hat; rw [← Ny314.out] at ho; have n_ := as2 hb ho; clear HB HO_3; obtain ⟨HB, HO316⟩ := n_; clear ho hb hg hat))
      go_roundg k1
      case measure => have := HK1.out; omega
      case rel => exact ⟨(y314), (wrap64 (x4_1 + t313)), zz1, H', ⟨zz58⟩, ⟨by (with_reducible repeat (first | apply Kd.R_alloc | apply Kd.R_drewN | apply Kd.R_drew)); exact HO316.out⟩, ⟨zz0⟩⟩
     rw [if_neg c6] at H
     exact absurd H (by simp)
    rw [if_neg c4] at H
    have c4b0 := decide_eq_false c4
    clear c4
    obtain rfl := Option.some.inj H
    go_wp2
    go_ret
    exact ⟨_, zz4, zz75, zz0⟩
 replace c3 := Bool.eq_false_iff.mpr c3
 subst c3
 have H1 : (some ([] : List Int)) = some r := by rw [if_neg (show ¬ (false = true) by decide)] at H; exact H
 clear H
 have H := H1
 clear H1
 obtain rfl := Option.some.inj H
 go_enter Tryz.func44, Tryz.ntmps44
 go_wp2_with (first | ((with_reducible refine gc 45 ?_); refine gL (some 8) Tryz.func45 #[.string a0] ?_; (with_reducible refine (cardexref01_Valid.calls k a0 false _ A2.out).mono ?_); rintro e w' ⟨rfl, ⟨nd, rfl⟩⟩; refine ⟨_, rfl, ?_⟩))
 go_ret
 exact ⟨_, zz4, zz46, zz0⟩
def cardexref01_In.l0 : Nat → List (S119) → Int → Int → Option (Bool)
 | 0, _, _, _ => none
 | k + 1, x0, x1, x5 => if x5 < (x0.length : Int) then (if 0 ≤ x5 then (if x1 ≥ ((rd_T119 x0 x5).f0) then (if x1 ≤ ((rd_T119 x0 x5).f1) then (some true) else (cardexref01_In.l0 k x0 x1 (wrap64 (x5 + 1)))) else (cardexref01_In.l0 k x0 x1 (wrap64 (x5 + 1)))) else (none)) else (some false)
def cardexref01_In.f (k : Nat) (l0 : List (S119)) (a1 : Int) : Option (Bool) := cardexref01_In.l0 k l0 a1 0
theorem lf21 {P : Prop} (h : P := by
 go_wp2
 first
  | (go_ret; exact ⟨zz1, zz17⟩)
  | (go_roundg k1; (case measure => have := HK1.out; omega); (case rel => exact ⟨(wrap64 (x5_1 + 1)), zz1, H', ⟨zz58⟩, zz17⟩))) : P := h
set_option maxHeartbeats 8000000 in
set_option maxRecDepth 100000 in
theorem cardexref01_In.calls (k : Nat) (A0 : Option Addr) (c0 : Nat) (l0 : List (S119)) (a1 : Int) (r : Bool) (w : World) (hr0 : Kd.C k119 w A0 l0.length l0) (hc0 : l0.length ≤ c0) (h : cardexref01_In.f k l0 a1 = some r) :
  Calls Tryz.prog 116 #[.slice A0 l0.length c0, .int .i64 a1] w fun e w' => e = .returned (.bool r) ∧ Drawn0 w w' := by
 have HR0 := Aside0.mk hr0
 have HC0 := Aside0.mk hc0
 clear hr0 hc0
 have H : (cardexref01_In.l0 k l0 a1 0) = some r := h
 clear h
 have H' := Aside0.mk H
 clear H
 go_enter Tryz.func116, Tryz.ntmps116
 go_wp2
 go_loopg [5] k (fun kq v5 w' => ∃ (x5_1 : Int), v5 = .int .i64 x5_1 ∧ Aside0 (cardexref01_In.l0 kq l0 a1 x5_1 = some r) ∧ Aside0 (kq ≤ k) ∧ Drawn0 w w')
 case atStart => exact ⟨(0), zz1, H', ⟨Nat.le_refl _⟩, zz17⟩
 case round =>
  clear H'
  try clear c1
  try clear p2
  obtain ⟨x5_1, rfl, HA, HK1, ⟨m1, rfl⟩⟩ := hrel
  cases gk with
  | zero => exact absurd HA.out (by simp [cardexref01_In.l0])
  | succ k1 =>
   have H := HA.out
   clear HA
   simp only [cardexref01_In.l0] at H
   by_cases c3 : x5_1 < (l0.length : Int)
   ·rw [if_pos c3] at H
    have c3b0 := decide_eq_true c3
    clear c3
    by_cases c4 : 0 ≤ x5_1
    ·rw [if_pos c4] at H
     have c4b0 := decide_eq_true c4
     clear c4
     by_cases c5 : a1 ≥ ((rd_T119 l0 x5_1).f0)
     ·rw [if_pos c5] at H
      have c5b0 := decide_eq_true c5
      clear c5
      by_cases c6 : a1 ≤ ((rd_T119 l0 x5_1).f1)
      ·rw [if_pos c6] at H
       have c6b0 := decide_eq_true c6
       clear c6
       obtain rfl := Option.some.inj H
       have p317 : 0 ≤ (x5_1 : Int) := of_decide_eq_true zz6
       have q317 : x5_1 < (l0.length : Int) := of_decide_eq_true zz6
       obtain ⟨ad317, e317, hx317_0, hx317_1⟩ := at_T119 HR0.out x5_1 p317 q317
       cases e317
       replace p317 := eq_true p317
       replace q317 := eq_true q317
       have p318 : 0 ≤ (x5_1 : Int) := of_decide_eq_true zz6
       have q318 : x5_1 < (l0.length : Int) := of_decide_eq_true zz6
       obtain ⟨ad318, e318, hx318_0, hx318_1⟩ := at_T119 HR0.out x5_1 p318 q318
       obtain rfl : ad317 = ad318 := (by injection e318)
       replace p318 := eq_true p318
       replace q318 := eq_true q318
       exact lf21
      rw [if_neg c6] at H
      have c6b0 := decide_eq_false c6
      clear c6
      have H' := Aside0.mk H
      clear H
      have p317 : 0 ≤ (x5_1 : Int) := of_decide_eq_true zz6
      have q317 : x5_1 < (l0.length : Int) := of_decide_eq_true zz6
      obtain ⟨ad317, e317, hx317_0, hx317_1⟩ := at_T119 HR0.out x5_1 p317 q317
      cases e317
      replace p317 := eq_true p317
      replace q317 := eq_true q317
      have p318 : 0 ≤ (x5_1 : Int) := of_decide_eq_true zz6
      have q318 : x5_1 < (l0.length : Int) := of_decide_eq_true zz6
      obtain ⟨ad318, e318, hx318_0, hx318_1⟩ := at_T119 HR0.out x5_1 p318 q318
      obtain rfl : ad317 = ad318 := (by injection e318)
      replace p318 := eq_true p318
      replace q318 := eq_true q318
      exact lf21
     rw [if_neg c5] at H
     have c5b0 := decide_eq_false c5
     clear c5
     have H' := Aside0.mk H
     clear H
     have p317 : 0 ≤ (x5_1 : Int) := of_decide_eq_true zz6
     have q317 : x5_1 < (l0.length : Int) := of_decide_eq_true zz6
     obtain ⟨ad317, e317, hx317_0, hx317_1⟩ := at_T119 HR0.out x5_1 p317 q317
     cases e317
     replace p317 := eq_true p317
     replace q317 := eq_true q317
     exact lf21
    rw [if_neg c4] at H
    exact absurd H (by simp)
   rw [if_neg c3] at H
   have c3b0 := decide_eq_false c3
   clear c3
   obtain rfl := Option.some.inj H
   exact lf21
def cardexref01_table.l0 : Nat → List Int → List (S119) → Int → Option ((List (S119)))
 | 0, _, _, _ => none
 | k + 1, x0, x3, x4 => if x4 < (x0.length : Int) then (if 0 ≤ x4 then (if 0 ≤ (wrap64 (x4 + 1)) then (if (wrap64 (x4 + 1)) < (x0.length : Int) then (if x3.length < 8796093022208 then (cardexref01_table.l0 k x0 (x3 ++ [(⟨rd x0 x4, rd x0 (wrap64 (x4 + 1))⟩ : S119)]) (wrap64 (x4 + 2))) else (none)) else (none)) else (none)) else (none)) else (some x3)
def cardexref01_table.f (k : Nat) (l0 : List Int) : Option ((List (S119))) := cardexref01_table.l0 k l0 ([] : List (S119)) 0
def cardexref01_table.T5 : Bool × List (List Nat × List Nat) := (true, [([], []), ([], []), ([], []), ([1, 2], [1, 2]), ([3], [3]), ([], []), ([], []), ([6], [6]), ([5, 7], [5, 7]), ([8], [8]), ([4, 9], [4, 9]), ([10], [10]), ([0, 11], [0, 11]), ([12, 12, 0, 1, 2, 3, 4, 5, 6, 7, 8, 9, 10, 11, 12], [0, 12])])
def cardexref01_table.B5 : List Nat := [0, 0, 0, 6, 14, 0, 0, 64, 224, 480, 1022, 2046, 4095, 8191]
theorem cardexref01_table.tab5 : rtab .any (opsOf Tryz.f132 5) = cardexref01_table.T5 := by kernel_rfl
theorem cardexref01_table.bits5 : waitsOk cardexref01_table.T5.2 cardexref01_table.B5 = true := by kernel_rfl
set_option maxHeartbeats 8000000 in
set_option maxRecDepth 100000 in
theorem cardexref01_table.calls (k : Nat) (A0 : Option Addr) (c0 : Nat) (l0 : List Int) (r : List (S119)) (w : World) (hr0 : Kd.C (Kd.int .i64) w A0 l0.length l0) (hc0 : l0.length ≤ c0) (h : cardexref01_table.f k l0 = some r) :
  Calls Tryz.prog 132 #[.slice A0 l0.length c0] w fun e w' => ∃ v0_ : Value, e = .returned (v0_) ∧ Kd.R k119 119 w' w.heap.size (fun _ => True) v0_ r ∧ Below w.heap.size w w' := by
 have hu119 := Tryz.underlying119
 have HR0 := Aside0.mk hr0
 have HC0 := Aside0.mk hc0
 clear hr0 hc0
 have HB := Aside0.mk (Below.refl w.heap.size w)
 have H : (cardexref01_table.l0 k l0 ([] : List (S119)) 0) = some r := h
 clear h
 have H' := Aside0.mk H
 clear H
 go_enter Tryz.func132, Tryz.ntmps132
 go_wp2
 go_loopg [3, 4] k (fun kq v3 v4 w' => ∃ (x3_1 : List (S119)) (x4_1 : Int), v4 = .int .i64 x4_1 ∧ Aside0 (cardexref01_table.l0 kq l0 x3_1 x4_1 = some r) ∧ Aside0 (kq ≤ k) ∧ Aside0 (Kd.R k119 119 w' w.heap.size (fun _ => True) v3 x3_1) ∧ Aside0 (Below w.heap.size w w'))
 case atStart => exact ⟨(([] : List (S119))), (0), zz1, H', ⟨Nat.le_refl _⟩, ⟨zz46⟩, ⟨zz0⟩⟩
 case round =>
  clear H'
  try clear c1
  obtain ⟨x3_1, x4_1, rfl, HA, HK1, HO_3, HB⟩ := hrel
  cases gk with
  | zero => exact absurd HA.out (by simp [cardexref01_table.l0])
  | succ k1 =>
   have H := HA.out
   clear HA
   simp only [cardexref01_table.l0] at H
   by_cases c2 : x4_1 < (l0.length : Int)
   ·rw [if_pos c2] at H
    have c2b0 := decide_eq_true c2
    clear c2
    by_cases c3 : 0 ≤ x4_1
    ·rw [if_pos c3] at H
     have c3b0 := decide_eq_true c3
     clear c3
     obtain ⟨ji4, hji4⟩ : ∃ j_ : Int, (wrap64 (x4_1 + 1)) = j_ := ⟨_, rfl⟩
     replace H : (if 0 ≤ (ji4) then (if (ji4) < (l0.length : Int) then (if x3_1.length < 8796093022208 then (cardexref01_table.l0 k1 l0 (x3_1 ++ [(⟨rd l0 x4_1, rd l0 (ji4)⟩ : S119)]) (wrap64 (x4_1 + 2))) else (none)) else (none)) else (none)) = some r := by first | (rw [hji4] at H; exact H) | (simp only [hji4] at H ⊢; exact H)
     have hji4w : (IntKind.i64.wrap (x4_1 + 1)) = ji4 := (i64_w _).trans hji4
     by_cases c5 : 0 ≤ (ji4)
     ·rw [if_pos c5] at H
      have c5b0 := decide_eq_true c5
      clear c5
      by_cases c6 : (ji4) < (l0.length : Int)
      ·rw [if_pos c6] at H
       have c6b0 := decide_eq_true c6
       clear c6
       by_cases c7 : x3_1.length < 8796093022208
       ·rw [if_pos c7] at H
        have LMc7 := Aside0.mk c7
        clear c7
        obtain ⟨y321, hy321⟩ : ∃ y_ : List (S119), y_ = (x3_1 ++ [(⟨rd l0 x4_1, rd l0 (ji4)⟩ : S119)]) := ⟨_, rfl⟩
        replace H : (cardexref01_table.l0 k1 l0 y321 (wrap64 (x4_1 + 2))) = some r := by first | (rw [hy321]; with_reducible exact H) | (have H2_ := (Option.bind_some _ _).symm.trans H; rw [hy321]; with_reducible exact H2_) | (have H2_ := (Option.bind_some _ _).symm.trans H; with_reducible exact H2_) | with_reducible exact H | (rw [hy321]; exact H) | exact H
        have Ny321 := Aside0.mk hy321
        clear hy321
        have H' := Aside0.mk H
        clear H
        try go_wp2
        have n_ := as2 (Kd.R_drew HO_3.out) (below_drew1 HB.out)
        clear HO_3 HB
        obtain ⟨HO_3, HB⟩ := n_
        have p319 : 0 ≤ (x4_1 : Int) := of_decide_eq_true zz6
        have q319 : x4_1 < (l0.length : Int) := of_decide_eq_true zz6
        obtain ⟨ad319, e319, hx319_0⟩ := Kd.at_int HR0.out x4_1 p319 q319
        have hw319_0 := hx319_0
        cases e319
        replace hx319_0 := hereB HB hx319_0
        replace p319 := eq_true p319
        replace q319 := eq_true q319
        have p320 : 0 ≤ ((ji4) : Int) := of_decide_eq_true zz6
        have q320 : (ji4) < (l0.length : Int) := of_decide_eq_true zz6
        obtain ⟨ad320, e320, hx320_0⟩ := Kd.at_int HR0.out (ji4) p320 q320
        have hw320_0 := hx320_0
        obtain rfl : ad319 = ad320 := (by injection e320)
        replace hx320_0 := hereB HB hx320_0
        replace p320 := eq_true p320
        replace q320 := eq_true q320
        refine sz14 (fun w' => w'.cell? (ad319.add (x4_1).toNat) = some (.int .i64 (rd l0 x4_1)) ∧ w'.cell? (ad319.add ((ji4)).toNat) = some (.int .i64 (rd l0 (ji4)))) [] cardexref01_table.tab5 cardexref01_table.bits5 ⟨((HB.out.cell (World.block_lt_of_cell? w _ hw319_0)).trans hw319_0), ((HB.out.cell (World.block_lt_of_cell? w _ hw320_0)).trans hw320_0)⟩ (fun hHeld HT_ HW_ => ?_)
        generalize wr.drew = w8 at HO_3 HB hx319_0 hx320_0 hHeld ⊢
        refine pz 0 (some 11) ?_; refine pz 1 (some 12) ?_; refine pz 2 (some 13) ?_; refine pz 3 (some 14) ?_; refine pz 5 (some 16) ?_; refine pz 6 (some 17) ?_; refine pz 7 (some 18) ?_; refine pz 8 (some 19) ?_; refine t2 4 (some 15) ?_; refine t2 9 (some 20) ?_; refine pz 10 (some 21) ?_
        refine oz 11 (some 22) (fun K hK => ?_)
        refine value_ (w1 := ?_) (v := ?_) (by rfl) rfl ?_ ?_
        rotate_left 2
        ·go_simp
         constructor
         ·rfl
         rfl
        refine hK.out _ _ ⟨(World.cell?_alloc_lt _ _ _ (World.block_lt_of_cell? _ _ (((HB.out.cell (World.block_lt_of_cell? w _ hw319_0)).trans hw319_0)))).trans (((HB.out.cell (World.block_lt_of_cell? w _ hw319_0)).trans hw319_0)), (World.cell?_alloc_lt _ _ _ (World.block_lt_of_cell? _ _ (((HB.out.cell (World.block_lt_of_cell? w _ hw320_0)).trans hw320_0)))).trans (((HB.out.cell (World.block_lt_of_cell? w _ hw320_0)).trans hw320_0))⟩ (fun hHeld => ?_)
        clear hK K
        refine norm_ (a' := ?_) ?_ ?_
        rotate_left
        ·show Act.put _ (some 22) _ = _
         simp only [Act.put, setIfInBounds_toArray, set_cons_zero, set_cons_succ, i64_w, i32_w]
         rfl
        refine oz 12 (some 23) (fun K hK => ?_)
        refine Kd.R_append_step k119 (w0 := w) w.heap.size (by rfl) (.tmp 11) (.tmp 22) 105 119 (.agg #[(.int .i64 0), (.int .i64 0)]) 16 rfl Tryz.underlying105 info119 rfl (by decide) (by omega) u3 x3_1 (⟨rd l0 x4_1, rd l0 (ji4)⟩ : S119) [.int .i64 (rd l0 x4_1), .int .i64 (rd l0 (ji4))] (fun _ => True) (fun _ => False) rfl rfl ?aP (fun _ hk => hk.elim) ?aF ?aO ?aB ?aS ?aL ?_
        (case aP => exact k119_mkM _ _ _ (⟨rd l0 x4_1, rd l0 (ji4)⟩ : S119))
        (case aB => exact zz0)
        (case aF => exact (fun _ _ => trivial))
        (case aO => exact zz75)
        (case aS => exact (below_size zz0))
        (case aL => have := LMc7.out; omega)
        intro v322 w9 ho hb hg hat
        rw [← Ny321.out] at ho
        have n_ := as2 hb ho
        clear HB HO_3
        obtain ⟨HB, HO323⟩ := n_
        clear ho hb hg hat
        refine hK.out _ _ ⟨((HB.out.cell (World.block_lt_of_cell? w _ hw319_0)).trans hw319_0), ((HB.out.cell (World.block_lt_of_cell? w _ hw320_0)).trans hw320_0)⟩ (fun hHeld => ?_)
        clear hK K
        refine norm_ (a' := ?_) ?_ ?_
        rotate_left
        ·show Act.put _ (some 23) _ = _
         simp only [Act.put, setIfInBounds_toArray, set_cons_zero, set_cons_succ, i64_w, i32_w]
         rfl
        refine pz 13 (some 3) ?_
        refine done_ (done_of HT_.out zz34) ?_
        try go_wp2
        go_roundg k1
        case measure => have := HK1.out; omega
        case rel => exact ⟨(y321), (wrap64 (x4_1 + 2)), zz1, H', ⟨zz58⟩, ⟨by (with_reducible repeat (first | apply Kd.R_alloc | apply Kd.R_drewN | apply Kd.R_drew)); exact HO323.out⟩, ⟨zz0⟩⟩
       rw [if_neg c7] at H
       exact absurd H (by simp)
      rw [if_neg c6] at H
      exact absurd H (by simp)
     rw [if_neg c5] at H
     exact absurd H (by simp)
    rw [if_neg c3] at H
    exact absurd H (by simp)
   rw [if_neg c2] at H
   have c2b0 := decide_eq_false c2
   clear c2
   obtain rfl := Option.some.inj H
   go_wp2
   go_ret
   exact ⟨_, zz4, zz75, zz0⟩
end Go.Proofs.YtaekklpphlcngaaGreatDoor.Q
