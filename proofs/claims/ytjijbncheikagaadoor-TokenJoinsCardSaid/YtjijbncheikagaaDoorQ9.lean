-- Written by hookprint.py (wip/) of this session: the kit's print with hand-proved functions beside it. Not trusted: Lean checks it.
import Derived.Test.YtjijbncheikagaaDoorQ0
import Derived.Test.YtjijbncheikagaaDoorQ6
import Derived.Test.YtjijbncheikagaaDoorQ7
import Derived.Test.YtjijbncheikagaaDoorQ8
namespace Go.Proofs.YtjijbncheikagaaDoor.Q
open List (setIfInBounds_toArray set_cons_zero set_cons_succ)
open Go.RowKit Go.Lib Go.Proofs.YtjijbncheikagaaDoorX Go.Proofs.YtjijbncheikagaaDoorW.PrintWords Go.Proofs.YtjijbncheikagaaDoorW.PrintLast Go.Proofs.YtjijbncheikagaaDoorW.PrintMore
set_option linter.unusedVariables false
set_option linter.unusedSimpArgs false
mutual
def cardexlaw08_TokenJoins.j0 : Nat → ByteArray → ByteArray → Bool → Option (Bool)
  | 0, _, _, _ => none
  | k + 1, x0, x1, x22 => if x22 = true then ((cardexlaw08_awake.f k).bind fun t313 => (if t313 = true then (some true) else (some false))) else (if x0.size + 4 ≤ 9223372036854775807 then ((token_Tokens.f k (x0 ++ (⟨#[60, 113, 47, 62]⟩ : ByteArray))).bind fun bt314 => (if 4 + x1.size ≤ 9223372036854775807 then ((token_Tokens.f k ((⟨#[60, 113, 47, 62]⟩ : ByteArray) ++ x1)).bind fun bt319 => (if (x0 ++ (⟨#[60, 113, 47, 62]⟩ : ByteArray)).size + x1.size ≤ 9223372036854775807 then ((token_Tokens.f k ((x0 ++ (⟨#[60, 113, 47, 62]⟩ : ByteArray)) ++ x1)).bind fun bt324 => (if bt314.2.2 = 0 then (cardexlaw08_TokenJoins.j1 k x0 bt314.1 bt319.1 bt324.1 bt324.2.2 (bt319.2.2 != 0)) else (cardexlaw08_TokenJoins.j1 k x0 bt314.1 bt319.1 bt324.1 bt324.2.2 true))) else (none))) else (none))) else (none))
def cardexlaw08_TokenJoins.j1 : Nat → ByteArray → List (S39) → List (S39) → List (S39) → Int → Bool → Option (Bool)
  | 0, _, _, _, _, _, _ => none
  | k + 1, x0, x5, x8, x11, x13, x52 => if x52 = true then ((cardexlaw08_awake.f k).bind fun t329 => (if t329 = true then (some true) else (some false))) else (if x13 = 0 then (if (x5.length : Int) < 1 then (cardexlaw08_TokenJoins.j2 k x0 x5 x8 x11 true) else (if (x8.length : Int) < 1 then (cardexlaw08_TokenJoins.j2 k x0 x5 x8 x11 true) else (cardexlaw08_TokenJoins.j2 k x0 x5 x8 x11 ((x11.length : Int) != (wrap64 ((wrap64 ((x5.length : Int) + (x8.length : Int))) - 1)))))) else (cardexlaw08_TokenJoins.j2 k x0 x5 x8 x11 true))
def cardexlaw08_TokenJoins.j2 : Nat → ByteArray → List (S39) → List (S39) → List (S39) → Bool → Option (Bool)
  | 0, _, _, _, _, _ => none
  | k + 1, x0, x5, x8, x11, x76 => if x76 = true then (some false) else (cardexlaw08_TokenJoins.l0 k x0 x5 x8 x11 0)
def cardexlaw08_TokenJoins.l0 : Nat → ByteArray → List (S39) → List (S39) → List (S39) → Int → Option (Bool)
  | 0, _, _, _, _, _ => none
  | k + 1, x0, x5, x8, x11, x14 => if x14 < (x8.length : Int) then (if 0 ≤ x14 then (cardexlaw08_TokenJoins.l0 k x0 x5 (x8.set (x14 : Int).toNat (⟨(rd_T39 x8 x14).f0, wrap64 (((rd_T39 x8 x14).f1) + (x0.size : Int)), (rd_T39 x8 x14).f2, (rd_T39 x8 x14).f3, (rd_T39 x8 x14).f4, (rd_T39 x8 x14).f5⟩ : S39)) x11 (wrap64 (x14 + 1))) else (none)) else ((cardexlaw08_awake.f k).bind fun t332 => (if t332 = true then (if 0 ≤ (x5.length : Int) then (if (x5.length : Int) ≤ (x11.length : Int) then ((cardexhelp_Same_api_Token_cardexhelp_Token.f k (x11.take ((x5.length : Int) : Int).toNat) x5).bind fun t337 => (if t337 = true then (if 0 ≤ (wrap64 ((x5.length : Int) - 1)) then (if (wrap64 ((x5.length : Int) - 1)) ≤ (x11.length : Int) then ((cardexhelp_Same_api_Token_cardexhelp_Token.f k (x11.drop ((wrap64 ((x5.length : Int) - 1)) : Int).toNat) x8).bind fun t342 => (if t342 = true then (some true) else (some false))) else (none)) else (none)) else (some false))) else (none)) else (none)) else (some false)))
end
def cardexlaw08_TokenJoins.f (k : Nat) (a0 : ByteArray) (a1 : ByteArray) : Option (Bool) := if (a0.size : Int) > 1500 then (cardexlaw08_TokenJoins.j0 k a0 a1 true) else (cardexlaw08_TokenJoins.j0 k a0 a1 (decide ((a1.size : Int) > 1500)))
set_option maxHeartbeats 8000000 in
set_option maxRecDepth 100000 in
theorem cardexlaw08_TokenJoins.calls (k : Nat) (a0 : ByteArray) (a1 : ByteArray) (r : Bool) (w : World) (h : cardexlaw08_TokenJoins.f k a0 a1 = some r) (hT : Tabs w) (hlaw : r = true) :
    Calls Tryd.prog 11 #[.string a0, .string a1] w fun e w' => e = .returned (.bool r) ∧ Below w.heap.size w w' := by
  have HT := Aside0.mk hT
  clear hT
  have HLAW := Aside0.mk hlaw
  clear hlaw
  have HB := Aside0.mk (Below.refl w.heap.size w)
  have H : (if (a0.size : Int) > 1500 then (cardexlaw08_TokenJoins.j0 k a0 a1 true) else (cardexlaw08_TokenJoins.j0 k a0 a1 (decide ((a1.size : Int) > 1500)))) = some r := h
  clear h
  have HC3 := Aside0.mk H
  clear H
  go_enter Tryd.func11, Tryd.ntmps11
  go_upto_region 1 with (fail)
  go_cut [22] (fun v22 wc => ∃ (kq : Nat) (x22_2 : Bool), v22 = .bool x22_2 ∧ Aside0 (cardexlaw08_TokenJoins.j0 kq a0 a1 x22_2 = some r) ∧ Aside0 (kq ≤ k) ∧ Aside0 (Below w.heap.size w wc))
  case first =>
    have H := HC3.out
    clear HC3
    by_cases c4 : (a0.size : Int) > 1500
    · rw [if_pos c4] at H
      have c4b0 : decide (1500 < (a0.size : Int)) = true := decide_eq_true c4
      have c4b1 : decide (1500 < a0.size) = true := decide_eq_true (by omega)
      clear c4
      (first | rw [c4b0] | (simp only [i64_w, i32_w]; rw [c4b0]) | skip)
      have H' := Aside0.mk H
      clear H
      go_wp2
      go_meet
      case rel => exact ⟨_, (true), (by first | rfl | (simp; done) | exact congrArg Value.bool (nemp _) | exact congrArg Value.bool (emp _) | (simp [*]; done)), H', ⟨by first | omega | exact Nat.le_refl _⟩, ⟨by repeat (first | (with_reducible first | exact HB.out | apply below_alloc | apply pw_below_drewN | apply below_drew1) | exact HB.out)⟩⟩
    · rw [if_neg c4] at H
      have c4b0 : decide (1500 < (a0.size : Int)) = false := decide_eq_false c4
      have c4b1 : decide (1500 < a0.size) = false := decide_eq_false (by omega)
      clear c4
      (first | rw [c4b0] | (simp only [i64_w, i32_w]; rw [c4b0]) | skip)
      have H' := Aside0.mk H
      clear H
      go_wp2
      go_meet
      case rel => exact ⟨_, (decide ((a1.size : Int) > 1500)), (by first | rfl | (simp; done) | exact congrArg Value.bool (nemp _) | exact congrArg Value.bool (emp _) | (simp [*]; done)), H', ⟨by first | omega | exact Nat.le_refl _⟩, ⟨by repeat (first | (with_reducible first | exact HB.out | apply below_alloc | apply pw_below_drewN | apply below_drew1) | exact HB.out)⟩⟩
  case rest =>
    clear HC3
    try clear c1
    try clear p2
    try clear c4
    try clear c4b0
    try clear c4b1
    obtain ⟨kq, x22_2, rfl, HA, HJ2, HB⟩ := hcut
    cases kq with
    | zero => exact absurd HA.out (by simp [cardexlaw08_TokenJoins.j0])
    | succ kj2 =>
      have H := HA.out
      clear HA
      simp only [cardexlaw08_TokenJoins.j0] at H
      by_cases c5 : x22_2 = true
      · subst c5
        have H1 : ((cardexlaw08_awake.f kj2).bind fun t313 => (if t313 = true then (some true) else (some false))) = some r := by rw [if_pos rfl] at H; exact H
        clear H
        have H := H1
        clear H1
        replace H := Option.bind_eq_some_iff.mp H
        obtain ⟨t313, A60, H⟩ := H
        replace H : (if t313 = true then (some true) else (some false)) = some r := H
        have A6 := Aside0.mk A60
        clear A60
        by_cases c7 : t313 = true
        · subst c7
          have H1 : (some true) = some r := by rw [if_pos rfl] at H; exact H
          clear H
          have H := H1
          clear H1
          obtain rfl := Option.some.inj H
          go_wp2_with (first | ((with_reducible refine gate_callee (f := 20) rfl ?_); refine goesL_ (some 23) rfl rfl Tryd.func20 (by kernel_rfl) rfl #[] rfl (by (try simp only [List.map_toArray, List.map_cons, List.map_nil]); first | done | rfl | (simp only [List.length_drop, List.length_take]; rfl)) ?_; (with_reducible refine (cardexlaw08_awake.calls kj2  true _ A6.out (tabs_b HT.out (by repeat (first | (with_reducible first | exact HB.out | apply below_alloc | apply pw_below_drewN | apply below_drew1) | exact HB.out)))).mono ?_); rintro e w8 ⟨rfl, hb⟩; refine ⟨_, rfl, ?_⟩; have n0_ := Aside0.mk (below_step (by repeat (first | (with_reducible first | exact HB.out | apply below_alloc | apply pw_below_drewN | apply below_drew1) | exact HB.out)) hb); clear HB; have HB := n0_; clear n0_; (try clear hb); (try clear hb2); (try clear hk); (try clear hi)))
          go_ret
          exact ⟨by first | rfl | (simp only [nemp]; rfl) | (simp [errW_none, errW_some] <;> rfl) | (simp [*, errW_none, errW_some] <;> rfl), by repeat (first | (with_reducible first | exact HB.out | apply below_alloc | apply pw_below_drewN | apply below_drew1) | exact HB.out)⟩
        · replace c7 := Bool.eq_false_iff.mpr c7
          subst c7
          have H1 : (some false) = some r := by rw [if_neg (show ¬ (false = true) by decide)] at H; exact H
          clear H
          have H := H1
          clear H1
          exact absurd ((Option.some.inj H).trans HLAW.out) (by decide)
      · replace c5 := Bool.eq_false_iff.mpr c5
        subst c5
        have H1 : (if a0.size + 4 ≤ 9223372036854775807 then ((token_Tokens.f kj2 (a0 ++ (⟨#[60, 113, 47, 62]⟩ : ByteArray))).bind fun bt314 => (if 4 + a1.size ≤ 9223372036854775807 then ((token_Tokens.f kj2 ((⟨#[60, 113, 47, 62]⟩ : ByteArray) ++ a1)).bind fun bt319 => (if (a0 ++ (⟨#[60, 113, 47, 62]⟩ : ByteArray)).size + a1.size ≤ 9223372036854775807 then ((token_Tokens.f kj2 ((a0 ++ (⟨#[60, 113, 47, 62]⟩ : ByteArray)) ++ a1)).bind fun bt324 => (if bt314.2.2 = 0 then (cardexlaw08_TokenJoins.j1 kj2 a0 bt314.1 bt319.1 bt324.1 bt324.2.2 (bt319.2.2 != 0)) else (cardexlaw08_TokenJoins.j1 kj2 a0 bt314.1 bt319.1 bt324.1 bt324.2.2 true))) else (none))) else (none))) else (none)) = some r := by rw [if_neg (show ¬ (false = true) by decide)] at H; exact H
        clear H
        have H := H1
        clear H1
        by_cases c9 : a0.size + 4 ≤ 9223372036854775807
        · rw [if_pos c9] at H
          have c9b0 := eq_true c9
          have c9b1 : decide (a0.size + 4 ≤ 9223372036854775807) = true := decide_eq_true c9
          try have c9b2 : (9223372036854775807 < a0.size + 4) = False := eq_false (Nat.not_lt.2 c9)
          replace H := Option.bind_eq_some_iff.mp H
          obtain ⟨⟨t314, t315, t316⟩, A100, H⟩ := H
          replace H : (if 4 + a1.size ≤ 9223372036854775807 then ((token_Tokens.f kj2 ((⟨#[60, 113, 47, 62]⟩ : ByteArray) ++ a1)).bind fun bt319 => (if (a0 ++ (⟨#[60, 113, 47, 62]⟩ : ByteArray)).size + a1.size ≤ 9223372036854775807 then ((token_Tokens.f kj2 ((a0 ++ (⟨#[60, 113, 47, 62]⟩ : ByteArray)) ++ a1)).bind fun bt324 => (if t316 = 0 then (cardexlaw08_TokenJoins.j1 kj2 a0 t314 bt319.1 bt324.1 bt324.2.2 (bt319.2.2 != 0)) else (cardexlaw08_TokenJoins.j1 kj2 a0 t314 bt319.1 bt324.1 bt324.2.2 true))) else (none))) else (none)) = some r := H
          have A10 := Aside0.mk A100
          clear A100
          by_cases c11 : 4 + a1.size ≤ 9223372036854775807
          · rw [if_pos c11] at H
            have c11b0 := eq_true c11
            have c11b1 : decide (4 + a1.size ≤ 9223372036854775807) = true := decide_eq_true c11
            try have c11b2 : (9223372036854775807 < 4 + a1.size) = False := eq_false (Nat.not_lt.2 c11)
            replace H := Option.bind_eq_some_iff.mp H
            obtain ⟨⟨t319, t320, t321⟩, A120, H⟩ := H
            replace H : (if (a0 ++ (⟨#[60, 113, 47, 62]⟩ : ByteArray)).size + a1.size ≤ 9223372036854775807 then ((token_Tokens.f kj2 ((a0 ++ (⟨#[60, 113, 47, 62]⟩ : ByteArray)) ++ a1)).bind fun bt324 => (if t316 = 0 then (cardexlaw08_TokenJoins.j1 kj2 a0 t314 t319 bt324.1 bt324.2.2 (t321 != 0)) else (cardexlaw08_TokenJoins.j1 kj2 a0 t314 t319 bt324.1 bt324.2.2 true))) else (none)) = some r := H
            have A12 := Aside0.mk A120
            clear A120
            by_cases c13 : (a0 ++ (⟨#[60, 113, 47, 62]⟩ : ByteArray)).size + a1.size ≤ 9223372036854775807
            · rw [if_pos c13] at H
              have c13b0 := eq_true c13
              have c13b1 : decide ((a0 ++ (⟨#[60, 113, 47, 62]⟩ : ByteArray)).size + a1.size ≤ 9223372036854775807) = true := decide_eq_true c13
              try have c13b2 : (9223372036854775807 < (a0 ++ (⟨#[60, 113, 47, 62]⟩ : ByteArray)).size + a1.size) = False := eq_false (Nat.not_lt.2 c13)
              try have c13b3 : (9223372036854775807 < a0.size + 4 + a1.size) = False := eq_false (Nat.not_lt.2 (by have h_ := c13; simp only [ByteArray.size_append] at h_; exact h_))
              replace H := Option.bind_eq_some_iff.mp H
              obtain ⟨⟨t324, t325, t326⟩, A140, H⟩ := H
              replace H : (if t316 = 0 then (cardexlaw08_TokenJoins.j1 kj2 a0 t314 t319 t324 t326 (t321 != 0)) else (cardexlaw08_TokenJoins.j1 kj2 a0 t314 t319 t324 t326 true)) = some r := H
              have A14 := Aside0.mk A140
              clear A140
              have HC15 := Aside0.mk H
              clear H
              go_upto_region 6 with (first | ((with_reducible refine gate_callee (f := 21) rfl ?_); refine goesL_ (some 27) rfl rfl Tryd.func21 (by kernel_rfl) rfl #[.string (a0 ++ (⟨#[60, 113, 47, 62]⟩ : ByteArray))] rfl (by (try simp only [List.map_toArray, List.map_cons, List.map_nil]); first | done | rfl | (simp only [List.length_drop, List.length_take]; rfl)) ?_; (with_reducible refine (token_Tokens.calls kj2 (a0 ++ (⟨#[60, 113, 47, 62]⟩ : ByteArray)) t314 t315 t316 _ A10.out (tabs_b HT.out (by repeat (first | (with_reducible first | exact HB.out | apply below_alloc | apply pw_below_drewN | apply below_drew1) | exact HB.out)))).mono ?_); rintro e w16 ⟨v317, rfl, ho0, hb⟩; refine ⟨_, rfl, ?_⟩; have n0_ := Aside0.mk (Kd.S_lower ho0 (below_size (by repeat (first | (with_reducible first | exact HB.out | apply below_alloc | apply pw_below_drewN | apply below_drew1) | exact HB.out)))); have n1_ := Aside0.mk (below_step (by repeat (first | (with_reducible first | exact HB.out | apply below_alloc | apply pw_below_drewN | apply below_drew1) | exact HB.out)) hb); clear HB; have HO318 := n0_; have HB := n1_; clear n0_ n1_; (try clear hb); (try clear hb2); (try clear hk); (try clear hi); (try clear ho0)) | ((with_reducible refine gate_callee (f := 21) rfl ?_); refine goesL_ (some 34) rfl rfl Tryd.func21 (by kernel_rfl) rfl #[.string ((⟨#[60, 113, 47, 62]⟩ : ByteArray) ++ a1)] rfl (by (try simp only [List.map_toArray, List.map_cons, List.map_nil]); first | done | rfl | (simp only [List.length_drop, List.length_take]; rfl)) ?_; (with_reducible refine (token_Tokens.calls kj2 ((⟨#[60, 113, 47, 62]⟩ : ByteArray) ++ a1) t319 t320 t321 _ A12.out (tabs_b HT.out (by repeat (first | (with_reducible first | exact HB.out | apply below_alloc | apply pw_below_drewN | apply below_drew1) | exact HB.out)))).mono ?_); rintro e w17 ⟨v322, rfl, ho0, hb⟩; refine ⟨_, rfl, ?_⟩; have n0_ := Aside0.mk (Kd.S_elder' (by (with_reducible repeat (first | apply Kd.S_alloc | apply Kd.S_drewN | apply Kd.S_drew)); exact HO318.out) (Kd.S_base ho0) hb); have n1_ := Aside0.mk (Kd.S_lower (Kd.S_new' ho0 (Kd.S_lt (by (with_reducible repeat (first | apply Kd.S_alloc | apply Kd.S_drewN | apply Kd.S_drew)); exact HO318.out))) (below_size (by repeat (first | (with_reducible first | exact HB.out | apply below_alloc | apply pw_below_drewN | apply below_drew1) | exact HB.out)))); have n2_ := Aside0.mk (below_step (by repeat (first | (with_reducible first | exact HB.out | apply below_alloc | apply pw_below_drewN | apply below_drew1) | exact HB.out)) hb); clear HO318; clear HB; have HO318 := n0_; have HO323 := n1_; have HB := n2_; clear n0_ n1_ n2_; (try clear hb); (try clear hb2); (try clear hk); (try clear hi); (try clear ho0)) | ((with_reducible refine gate_callee (f := 21) rfl ?_); refine goesL_ (some 43) rfl rfl Tryd.func21 (by kernel_rfl) rfl #[.string ((a0 ++ (⟨#[60, 113, 47, 62]⟩ : ByteArray)) ++ a1)] rfl (by (try simp only [List.map_toArray, List.map_cons, List.map_nil]); first | done | rfl | (simp only [List.length_drop, List.length_take]; rfl)) ?_; (with_reducible refine (token_Tokens.calls kj2 ((a0 ++ (⟨#[60, 113, 47, 62]⟩ : ByteArray)) ++ a1) t324 t325 t326 _ A14.out (tabs_b HT.out (by repeat (first | (with_reducible first | exact HB.out | apply below_alloc | apply pw_below_drewN | apply below_drew1) | exact HB.out)))).mono ?_); rintro e w18 ⟨v327, rfl, ho0, hb⟩; refine ⟨_, rfl, ?_⟩; have n0_ := Aside0.mk (Kd.S_elder' (by (with_reducible repeat (first | apply Kd.S_alloc | apply Kd.S_drewN | apply Kd.S_drew)); exact HO318.out) (Kd.S_base ho0) hb); have n1_ := Aside0.mk (Kd.S_elder' (by (with_reducible repeat (first | apply Kd.S_alloc | apply Kd.S_drewN | apply Kd.S_drew)); exact HO323.out) (Kd.S_base ho0) hb); have n2_ := Aside0.mk (Kd.S_lower (Kd.S_new' (Kd.S_new' ho0 (Kd.S_lt (by (with_reducible repeat (first | apply Kd.S_alloc | apply Kd.S_drewN | apply Kd.S_drew)); exact HO318.out))) (Kd.S_lt (by (with_reducible repeat (first | apply Kd.S_alloc | apply Kd.S_drewN | apply Kd.S_drew)); exact HO323.out))) (below_size (by repeat (first | (with_reducible first | exact HB.out | apply below_alloc | apply pw_below_drewN | apply below_drew1) | exact HB.out)))); have n3_ := Aside0.mk (below_step (by repeat (first | (with_reducible first | exact HB.out | apply below_alloc | apply pw_below_drewN | apply below_drew1) | exact HB.out)) hb); clear HO318; clear HO323; clear HB; have HO318 := n0_; have HO323 := n1_; have HO328 := n2_; have HB := n3_; clear n0_ n1_ n2_ n3_; (try clear hb); (try clear hb2); (try clear hk); (try clear hi); (try clear ho0)))
              (try simp only [Act.put, List.setIfInBounds_toArray, List.set_cons_zero, List.set_cons_succ])
              go_cut [52] (fun v52 wc => ∃ (kq : Nat) (x52_14 : Bool), v52 = .bool x52_14 ∧ Aside0 (cardexlaw08_TokenJoins.j1 kq a0 t314 t319 t324 t326 x52_14 = some r) ∧ Aside0 (kq ≤ kj2) ∧ Aside0 (Kd.S k39 39 wc w.heap.size (fun k_ => some k_ ≠ (v322 : Value).ownBlock ∧ some k_ ≠ (v327 : Value).ownBlock) v317 t314) ∧ Aside0 (Kd.S k39 39 wc w.heap.size (fun k_ => some k_ ≠ (v317 : Value).ownBlock ∧ some k_ ≠ (v327 : Value).ownBlock) v322 t319) ∧ Aside0 (Kd.S k39 39 wc w.heap.size (fun k_ => some k_ ≠ (v317 : Value).ownBlock ∧ some k_ ≠ (v322 : Value).ownBlock) v327 t324) ∧ Aside0 (Below w.heap.size w wc))
              case first =>
                have H := HC15.out
                clear HC15
                by_cases c19 : t316 = 0
                · rw [if_pos c19] at H
                  have c19b0 : (t316 == 0) = true := beq_iff_eq.mpr c19
                  have c19b1 : (t316 != 0) = false := bne_eq_false_iff_eq.mpr c19
                  clear c19
                  (first | rw [c19b0] | (simp only [i64_w, i32_w]; rw [c19b0]) | skip)
                  have H' := Aside0.mk H
                  clear H
                  go_wp2
                  go_meet
                  case rel => exact ⟨_, ((t321 != 0)), (by first | rfl | (simp; done) | exact congrArg Value.bool (nemp _) | exact congrArg Value.bool (emp _) | (simp [*]; done)), H', ⟨by have := HJ2.out; first | omega | exact Nat.le_refl _⟩, ⟨by (with_reducible repeat (first | apply Kd.S_alloc | apply Kd.S_drewN | apply Kd.S_drew)); exact Kd.S_mono HO318.out (fun _ hk => ⟨hk.1.2, hk.2⟩)⟩, ⟨by (with_reducible repeat (first | apply Kd.S_alloc | apply Kd.S_drewN | apply Kd.S_drew)); exact Kd.S_mono HO323.out (fun _ hk => ⟨hk.1.2, hk.2⟩)⟩, ⟨by (with_reducible repeat (first | apply Kd.S_alloc | apply Kd.S_drewN | apply Kd.S_drew)); exact Kd.S_mono HO328.out (fun _ hk => ⟨hk.1.2, hk.2⟩)⟩, ⟨by repeat (first | (with_reducible first | exact HB.out | apply below_alloc | apply pw_below_drewN | apply below_drew1) | exact HB.out)⟩⟩
                · rw [if_neg c19] at H
                  have c19b0 : (t316 == 0) = false := beq_eq_false_iff_ne.mpr c19
                  have c19b1 : (t316 != 0) = true := bne_iff_ne.mpr c19
                  (first | rw [c19b0] | (simp only [i64_w, i32_w]; rw [c19b0]) | skip)
                  have H' := Aside0.mk H
                  clear H
                  go_wp2
                  go_meet
                  case rel => exact ⟨_, (true), (by first | rfl | (simp; done) | exact congrArg Value.bool (nemp _) | exact congrArg Value.bool (emp _) | (simp [*]; done)), H', ⟨by have := HJ2.out; first | omega | exact Nat.le_refl _⟩, ⟨by (with_reducible repeat (first | apply Kd.S_alloc | apply Kd.S_drewN | apply Kd.S_drew)); exact Kd.S_mono HO318.out (fun _ hk => ⟨hk.1.2, hk.2⟩)⟩, ⟨by (with_reducible repeat (first | apply Kd.S_alloc | apply Kd.S_drewN | apply Kd.S_drew)); exact Kd.S_mono HO323.out (fun _ hk => ⟨hk.1.2, hk.2⟩)⟩, ⟨by (with_reducible repeat (first | apply Kd.S_alloc | apply Kd.S_drewN | apply Kd.S_drew)); exact Kd.S_mono HO328.out (fun _ hk => ⟨hk.1.2, hk.2⟩)⟩, ⟨by repeat (first | (with_reducible first | exact HB.out | apply below_alloc | apply pw_below_drewN | apply below_drew1) | exact HB.out)⟩⟩
              case rest =>
                clear HC15
                try clear c1
                try clear c2
                try clear p2
                try clear c4
                try clear c4b0
                try clear c4b1
                try clear c5
                try clear c7
                try clear c9
                try clear c9b0
                try clear c9b1
                try clear c9b2
                try clear c11
                try clear c11b0
                try clear c11b1
                try clear c11b2
                try clear c13
                try clear c13b0
                try clear c13b1
                try clear c13b2
                try clear c19
                try clear c19b0
                try clear c19b1
                try clear p2
                obtain ⟨kq, x52_14, rfl, HA, HJ14, HO_5, HO_8, HO_11, HB⟩ := hcut
                cases kq with
                | zero => exact absurd HA.out (by simp [cardexlaw08_TokenJoins.j1])
                | succ kj14 =>
                  have H := HA.out
                  clear HA
                  simp only [cardexlaw08_TokenJoins.j1] at H
                  by_cases c20 : x52_14 = true
                  · subst c20
                    have H1 : ((cardexlaw08_awake.f kj14).bind fun t329 => (if t329 = true then (some true) else (some false))) = some r := by rw [if_pos rfl] at H; exact H
                    clear H
                    have H := H1
                    clear H1
                    replace H := Option.bind_eq_some_iff.mp H
                    obtain ⟨t329, A210, H⟩ := H
                    replace H : (if t329 = true then (some true) else (some false)) = some r := H
                    have A21 := Aside0.mk A210
                    clear A210
                    by_cases c22 : t329 = true
                    · subst c22
                      have H1 : (some true) = some r := by rw [if_pos rfl] at H; exact H
                      clear H
                      have H := H1
                      clear H1
                      obtain rfl := Option.some.inj H
                      go_wp2_with (first | ((with_reducible refine gate_callee (f := 20) rfl ?_); refine goesL_ (some 53) rfl rfl Tryd.func20 (by kernel_rfl) rfl #[] rfl (by (try simp only [List.map_toArray, List.map_cons, List.map_nil]); first | done | rfl | (simp only [List.length_drop, List.length_take]; rfl)) ?_; (with_reducible refine (cardexlaw08_awake.calls kj14  true _ A21.out (tabs_b HT.out (by repeat (first | (with_reducible first | exact HB.out | apply below_alloc | apply pw_below_drewN | apply below_drew1) | exact HB.out)))).mono ?_); rintro e w23 ⟨rfl, hb⟩; refine ⟨_, rfl, ?_⟩; have n0_ := Aside0.mk (Kd.S_below (by (with_reducible repeat (first | apply Kd.S_alloc | apply Kd.S_drewN | apply Kd.S_drew)); exact HO_5.out) hb); have n1_ := Aside0.mk (Kd.S_below (by (with_reducible repeat (first | apply Kd.S_alloc | apply Kd.S_drewN | apply Kd.S_drew)); exact HO_8.out) hb); have n2_ := Aside0.mk (Kd.S_below (by (with_reducible repeat (first | apply Kd.S_alloc | apply Kd.S_drewN | apply Kd.S_drew)); exact HO_11.out) hb); have n3_ := Aside0.mk (below_step (by repeat (first | (with_reducible first | exact HB.out | apply below_alloc | apply pw_below_drewN | apply below_drew1) | exact HB.out)) hb); clear HO_5; clear HO_8; clear HO_11; clear HB; have HO_5 := n0_; have HO_8 := n1_; have HO_11 := n2_; have HB := n3_; clear n0_ n1_ n2_ n3_; (try clear hb); (try clear hb2); (try clear hk); (try clear hi)))
                      go_ret
                      exact ⟨by first | rfl | (simp only [nemp]; rfl) | (simp [errW_none, errW_some] <;> rfl) | (simp [*, errW_none, errW_some] <;> rfl), by repeat (first | (with_reducible first | exact HB.out | apply below_alloc | apply pw_below_drewN | apply below_drew1) | exact HB.out)⟩
                    · replace c22 := Bool.eq_false_iff.mpr c22
                      subst c22
                      have H1 : (some false) = some r := by rw [if_neg (show ¬ (false = true) by decide)] at H; exact H
                      clear H
                      have H := H1
                      clear H1
                      exact absurd ((Option.some.inj H).trans HLAW.out) (by decide)
                  · replace c20 := Bool.eq_false_iff.mpr c20
                    subst c20
                    have H1 : (if t326 = 0 then (if (t314.length : Int) < 1 then (cardexlaw08_TokenJoins.j2 kj14 a0 t314 t319 t324 true) else (if (t319.length : Int) < 1 then (cardexlaw08_TokenJoins.j2 kj14 a0 t314 t319 t324 true) else (cardexlaw08_TokenJoins.j2 kj14 a0 t314 t319 t324 ((t324.length : Int) != (wrap64 ((wrap64 ((t314.length : Int) + (t319.length : Int))) - 1)))))) else (cardexlaw08_TokenJoins.j2 kj14 a0 t314 t319 t324 true)) = some r := by rw [if_neg (show ¬ (false = true) by decide)] at H; exact H
                    clear H
                    have H := H1
                    clear H1
                    have HC24 := Aside0.mk H
                    clear H
                    go_upto_region 8 with (fail)
                    go_cut [76] (fun v76 wc => ∃ (kq : Nat) (x76_23 : Bool), v76 = .bool x76_23 ∧ Aside0 (cardexlaw08_TokenJoins.j2 kq a0 t314 t319 t324 x76_23 = some r) ∧ Aside0 (kq ≤ kj14) ∧ Aside0 (Kd.S k39 39 wc w.heap.size (fun k_ => some k_ ≠ (v322 : Value).ownBlock ∧ some k_ ≠ (v327 : Value).ownBlock) v317 t314) ∧ Aside0 (Kd.S k39 39 wc w.heap.size (fun k_ => some k_ ≠ (v317 : Value).ownBlock ∧ some k_ ≠ (v327 : Value).ownBlock) v322 t319) ∧ Aside0 (Kd.S k39 39 wc w.heap.size (fun k_ => some k_ ≠ (v317 : Value).ownBlock ∧ some k_ ≠ (v322 : Value).ownBlock) v327 t324) ∧ Aside0 (Below w.heap.size w wc))
                    case first =>
                      have H := HC24.out
                      clear HC24
                      by_cases c25 : t326 = 0
                      · rw [if_pos c25] at H
                        have c25b0 : (t326 == 0) = true := beq_iff_eq.mpr c25
                        have c25b1 : (t326 != 0) = false := bne_eq_false_iff_eq.mpr c25
                        clear c25
                        (first | rw [c25b0] | (simp only [i64_w, i32_w]; rw [c25b0]) | skip)
                        by_cases c26 : (t314.length : Int) < 1
                        · rw [if_pos c26] at H
                          have c26b0 : decide ((t314.length : Int) < 1) = true := decide_eq_true c26
                          have c26b1 : decide (t314.length < 1) = true := decide_eq_true (by omega)
                          clear c26
                          have H' := Aside0.mk H
                          clear H
                          obtain ⟨Ao27, co27, eo27⟩ := Kd.S_slice HO_5.out
                          subst eo27
                          go_wp2
                          go_meet
                          case rel => exact ⟨_, (true), (by first | rfl | (simp; done) | exact congrArg Value.bool (nemp _) | exact congrArg Value.bool (emp _) | (simp [*]; done)), H', ⟨by have := HJ2.out; have := HJ14.out; first | omega | exact Nat.le_refl _⟩, ⟨by (with_reducible repeat (first | apply Kd.S_alloc | apply Kd.S_drewN | apply Kd.S_drew)); exact HO_5.out⟩, ⟨by (with_reducible repeat (first | apply Kd.S_alloc | apply Kd.S_drewN | apply Kd.S_drew)); exact HO_8.out⟩, ⟨by (with_reducible repeat (first | apply Kd.S_alloc | apply Kd.S_drewN | apply Kd.S_drew)); exact HO_11.out⟩, ⟨by repeat (first | (with_reducible first | exact HB.out | apply below_alloc | apply pw_below_drewN | apply below_drew1) | exact HB.out)⟩⟩
                        · rw [if_neg c26] at H
                          have c26b0 : decide ((t314.length : Int) < 1) = false := decide_eq_false c26
                          have c26b1 : decide (t314.length < 1) = false := decide_eq_false (by omega)
                          clear c26
                          by_cases c28 : (t319.length : Int) < 1
                          · rw [if_pos c28] at H
                            have c28b0 : decide ((t319.length : Int) < 1) = true := decide_eq_true c28
                            have c28b1 : decide (t319.length < 1) = true := decide_eq_true (by omega)
                            clear c28
                            have H' := Aside0.mk H
                            clear H
                            obtain ⟨Ao29, co29, eo29⟩ := Kd.S_slice HO_5.out
                            subst eo29
                            obtain ⟨Ao30, co30, eo30⟩ := Kd.S_slice HO_8.out
                            subst eo30
                            go_wp2
                            go_meet
                            case rel => exact ⟨_, (true), (by first | rfl | (simp; done) | exact congrArg Value.bool (nemp _) | exact congrArg Value.bool (emp _) | (simp [*]; done)), H', ⟨by have := HJ2.out; have := HJ14.out; first | omega | exact Nat.le_refl _⟩, ⟨by (with_reducible repeat (first | apply Kd.S_alloc | apply Kd.S_drewN | apply Kd.S_drew)); exact HO_5.out⟩, ⟨by (with_reducible repeat (first | apply Kd.S_alloc | apply Kd.S_drewN | apply Kd.S_drew)); exact HO_8.out⟩, ⟨by (with_reducible repeat (first | apply Kd.S_alloc | apply Kd.S_drewN | apply Kd.S_drew)); exact HO_11.out⟩, ⟨by repeat (first | (with_reducible first | exact HB.out | apply below_alloc | apply pw_below_drewN | apply below_drew1) | exact HB.out)⟩⟩
                          · rw [if_neg c28] at H
                            have c28b0 : decide ((t319.length : Int) < 1) = false := decide_eq_false c28
                            have c28b1 : decide (t319.length < 1) = false := decide_eq_false (by omega)
                            clear c28
                            have H' := Aside0.mk H
                            clear H
                            obtain ⟨Ao31, co31, eo31⟩ := Kd.S_slice HO_5.out
                            subst eo31
                            obtain ⟨Ao32, co32, eo32⟩ := Kd.S_slice HO_8.out
                            subst eo32
                            obtain ⟨Ao33, co33, eo33⟩ := Kd.S_slice HO_11.out
                            subst eo33
                            go_wp2
                            go_meet
                            case rel => exact ⟨_, (((t324.length : Int) != (wrap64 ((wrap64 ((t314.length : Int) + (t319.length : Int))) - 1)))), (by first | rfl | (simp; done) | exact congrArg Value.bool (nemp _) | exact congrArg Value.bool (emp _) | (simp [*]; done)), H', ⟨by have := HJ2.out; have := HJ14.out; first | omega | exact Nat.le_refl _⟩, ⟨by (with_reducible repeat (first | apply Kd.S_alloc | apply Kd.S_drewN | apply Kd.S_drew)); exact HO_5.out⟩, ⟨by (with_reducible repeat (first | apply Kd.S_alloc | apply Kd.S_drewN | apply Kd.S_drew)); exact HO_8.out⟩, ⟨by (with_reducible repeat (first | apply Kd.S_alloc | apply Kd.S_drewN | apply Kd.S_drew)); exact HO_11.out⟩, ⟨by repeat (first | (with_reducible first | exact HB.out | apply below_alloc | apply pw_below_drewN | apply below_drew1) | exact HB.out)⟩⟩
                      · rw [if_neg c25] at H
                        have c25b0 : (t326 == 0) = false := beq_eq_false_iff_ne.mpr c25
                        have c25b1 : (t326 != 0) = true := bne_iff_ne.mpr c25
                        (first | rw [c25b0] | (simp only [i64_w, i32_w]; rw [c25b0]) | skip)
                        have H' := Aside0.mk H
                        clear H
                        go_wp2
                        go_meet
                        case rel => exact ⟨_, (true), (by first | rfl | (simp; done) | exact congrArg Value.bool (nemp _) | exact congrArg Value.bool (emp _) | (simp [*]; done)), H', ⟨by have := HJ2.out; have := HJ14.out; first | omega | exact Nat.le_refl _⟩, ⟨by (with_reducible repeat (first | apply Kd.S_alloc | apply Kd.S_drewN | apply Kd.S_drew)); exact HO_5.out⟩, ⟨by (with_reducible repeat (first | apply Kd.S_alloc | apply Kd.S_drewN | apply Kd.S_drew)); exact HO_8.out⟩, ⟨by (with_reducible repeat (first | apply Kd.S_alloc | apply Kd.S_drewN | apply Kd.S_drew)); exact HO_11.out⟩, ⟨by repeat (first | (with_reducible first | exact HB.out | apply below_alloc | apply pw_below_drewN | apply below_drew1) | exact HB.out)⟩⟩
                    case rest =>
                      clear HC24
                      try clear c1
                      try clear c2
                      try clear p2
                      try clear c4
                      try clear c4b0
                      try clear c4b1
                      try clear c5
                      try clear p6
                      try clear c7
                      try clear c9
                      try clear c9b0
                      try clear c9b1
                      try clear c9b2
                      try clear c11
                      try clear c11b0
                      try clear c11b1
                      try clear c11b2
                      try clear c13
                      try clear c13b0
                      try clear c13b1
                      try clear c13b2
                      try clear c19
                      try clear c19b0
                      try clear c19b1
                      try clear c20
                      try clear c21
                      try clear c22
                      try clear c25
                      try clear c25b0
                      try clear c25b1
                      try clear c26
                      try clear c26b0
                      try clear c26b1
                      try clear c28
                      try clear c28b0
                      try clear c28b1
                      try clear p2
                      obtain ⟨kq, x76_23, rfl, HA, HJ23, HO_5, HO_8, HO_11, HB⟩ := hcut
                      cases kq with
                      | zero => exact absurd HA.out (by simp [cardexlaw08_TokenJoins.j2])
                      | succ kj23 =>
                        have H := HA.out
                        clear HA
                        simp only [cardexlaw08_TokenJoins.j2] at H
                        by_cases c34 : x76_23 = true
                        · subst c34
                          have H1 : (some false) = some r := by rw [if_pos rfl] at H; exact H
                          clear H
                          have H := H1
                          clear H1
                          exact absurd ((Option.some.inj H).trans HLAW.out) (by decide)
                        · replace c34 := Bool.eq_false_iff.mpr c34
                          subst c34
                          have H1 : (cardexlaw08_TokenJoins.l0 kj23 a0 t314 t319 t324 0) = some r := by rw [if_neg (show ¬ (false = true) by decide)] at H; exact H
                          clear H
                          have H := H1
                          clear H1
                          have H' := Aside0.mk H
                          clear H
                          go_wp2
                          go_loopg [14] kj23 (fun kq v14 w' => ∃ (x8_4 : List (S39)) (x14_4 : Int), v14 = .int .i64 x14_4 ∧ Aside0 (cardexlaw08_TokenJoins.l0 kq a0 t314 x8_4 t324 x14_4 = some r) ∧ Aside0 (kq ≤ kj23) ∧ Aside0 (Kd.S k39 39 w' w.heap.size (fun k_ => some k_ ≠ (v322 : Value).ownBlock ∧ some k_ ≠ (v327 : Value).ownBlock) v317 t314) ∧ Aside0 (Kd.S k39 39 w' w.heap.size (fun k_ => some k_ ≠ (v317 : Value).ownBlock ∧ some k_ ≠ (v327 : Value).ownBlock) v322 x8_4) ∧ Aside0 (Kd.S k39 39 w' w.heap.size (fun k_ => some k_ ≠ (v317 : Value).ownBlock ∧ some k_ ≠ (v322 : Value).ownBlock) v327 t324) ∧ Aside0 (Below w.heap.size w w'))
                          case atStart => exact ⟨(t319), (0), (by first | rfl | (simp; done) | exact congrArg Value.bool (nemp _) | exact congrArg Value.bool (emp _) | (simp [*]; done)), H', ⟨Nat.le_refl _⟩, ⟨by (with_reducible repeat (first | apply Kd.S_alloc | apply Kd.S_drewN | apply Kd.S_drew)); exact HO_5.out⟩, ⟨by (with_reducible repeat (first | apply Kd.S_alloc | apply Kd.S_drewN | apply Kd.S_drew)); exact HO_8.out⟩, ⟨by (with_reducible repeat (first | apply Kd.S_alloc | apply Kd.S_drewN | apply Kd.S_drew)); exact HO_11.out⟩, ⟨by repeat (first | (with_reducible first | exact HB.out | apply below_alloc | apply pw_below_drewN | apply below_drew1) | exact HB.out)⟩⟩
                          case round =>
                            clear H'
                            try clear c1
                            try clear c2
                            try clear p2
                            try clear c3
                            try clear c4
                            try clear c4b0
                            try clear c4b1
                            try clear c5
                            try clear p6
                            try clear c7
                            try clear c9
                            try clear c9b0
                            try clear c9b1
                            try clear c9b2
                            try clear c11
                            try clear c11b0
                            try clear c11b1
                            try clear c11b2
                            try clear c13
                            try clear c13b0
                            try clear c13b1
                            try clear c13b2
                            try clear c19
                            try clear c19b0
                            try clear c19b1
                            try clear c20
                            try clear c21
                            try clear c22
                            try clear c25
                            try clear c25b0
                            try clear c25b1
                            try clear c26
                            try clear c26b0
                            try clear c26b1
                            try clear c28
                            try clear c28b0
                            try clear c28b1
                            try clear c34
                            try clear p2
                            try clear p6
                            obtain ⟨x8_4, x14_4, rfl, HA, HK4, HO_5, HO_8, HO_11, HB⟩ := hrel
                            cases gk with
                            | zero => exact absurd HA.out (by simp [cardexlaw08_TokenJoins.l0])
                            | succ k4 =>
                              have H := HA.out
                              clear HA
                              simp only [cardexlaw08_TokenJoins.l0] at H
                              by_cases c35 : x14_4 < (x8_4.length : Int)
                              · rw [if_pos c35] at H
                                have c35b0 : decide (x14_4 < (x8_4.length : Int)) = true := decide_eq_true c35
                                clear c35
                                by_cases c36 : 0 ≤ x14_4
                                · rw [if_pos c36] at H
                                  have c36b0 : decide (0 ≤ x14_4) = true := decide_eq_true c36
                                  clear c36
                                  obtain ⟨y331, hy331⟩ : ∃ y_ : List (S39), y_ = (x8_4.set (x14_4 : Int).toNat (⟨(rd_T39 x8_4 x14_4).f0, wrap64 (((rd_T39 x8_4 x14_4).f1) + (a0.size : Int)), (rd_T39 x8_4 x14_4).f2, (rd_T39 x8_4 x14_4).f3, (rd_T39 x8_4 x14_4).f4, (rd_T39 x8_4 x14_4).f5⟩ : S39)) := ⟨_, rfl⟩
                                  replace H : (cardexlaw08_TokenJoins.l0 k4 a0 t314 y331 t324 (wrap64 (x14_4 + 1))) = some r := by first | (rw [hy331]; with_reducible exact H) | (have H2_ := (Option.bind_some _ _).symm.trans H; rw [hy331]; with_reducible exact H2_) | (have H2_ := (Option.bind_some _ _).symm.trans H; with_reducible exact H2_) | with_reducible exact H | (rw [hy331]; exact H) | exact H
                                  have Ny331 := Aside0.mk hy331
                                  clear hy331
                                  have H' := Aside0.mk H
                                  clear H
                                  obtain ⟨Ao38, co38, eo38⟩ := Kd.S_slice HO_8.out
                                  subst eo38
                                  have p330 : 0 ≤ (x14_4 : Int) := of_decide_eq_true (by first | (with_reducible assumption) | assumption)
                                  have q330 : x14_4 < (x8_4.length : Int) := of_decide_eq_true (by first | (with_reducible assumption) | assumption)
                                  obtain ⟨ad330, A330_4, c330_4, e330, hx330_0, hx330_1, hx330_2, hx330_3, hx330_4, hx330_5, hl330_4, hi330_4⟩ := at_T39 (Kd.S_reads' HO_8.out).2.2 x14_4 p330 q330
                                  cases e330
                                  obtain ⟨ce330, hce330, hMe330, hcc330⟩ := Kd.S_get HO_8.out z39 x14_4 p330 (by first | exact q330 | exact of_decide_eq_true (by first | (with_reducible assumption) | assumption) | (have e_ := (Kd.S_reads' HO_8.out).1; omega))
                                  obtain ⟨ve330_4, rfl, ge330_4⟩ := k39_openM hMe330
                                  have hv330_4 := hcc330 4 _ rfl
                                  rw [add_field _ _ 4 (by omega)] at hv330_4
                                  replace hv330_4 := Option.some.inj (hv330_4.symm.trans hx330_4)
                                  rw [hv330_4] at ge330_4
                                  have HL330_4 := Aside0.mk (show Kd.R k41 41 _ _ _ _ ((rd_T39 x8_4 x14_4).f4) from ge330_4)
                                  clear hv330_4 ge330_4
                                  clear hcc330 hce330
                                  have HR330_4 := Aside0.mk hi330_4
                                  have HC330_4 := Aside0.mk hl330_4
                                  clear hi330_4 hl330_4
                                  replace p330 := eq_true p330
                                  replace q330 := eq_true q330
                                  have p37 : 0 ≤ (x14_4 : Int) := of_decide_eq_true (by first | (with_reducible assumption) | assumption)
                                  have q37 : (x14_4 : Int) < ((x8_4.length : Int) : Int) := of_decide_eq_true (by first | (with_reducible assumption) | assumption)
                                  obtain ⟨go37, co37, eo37, gb37, gl37, cl37, HG37⟩ := Kd.S_form HO_8.out (by omega)
                                  (first | cases eo37 | (injection eo37 with ea_ en_ ec_; (first | subst ea_ | (injection ea_ with ea_; subst ea_)); subst ec_; clear en_))
                                  have GB37 := Aside0.mk gb37
                                  have GG37 := Aside0.mk HG37
                                  clear gb37 gl37 HG37
                                  (first | simp only [add_plain] at hx330_0 | skip)
                                  (first | simp only [add_plain] at hx330_1 | skip)
                                  (first | simp only [add_plain] at hx330_2 | skip)
                                  (first | simp only [add_plain] at hx330_3 | skip)
                                  (first | simp only [add_plain] at hx330_4 | skip)
                                  (first | simp only [add_plain] at hx330_5 | skip)
                                  obtain ⟨_, ce37, hcl37, hM37, hcc37, hfr37, _, _⟩ := Kd.S_elem HO_8.out z39 (x14_4 : Int) p37 q37
                                  obtain ⟨ve37_4, rfl, ge37_4⟩ := k39_openM hM37
                                  have hx37_0 : wr.cell? ⟨go37, (x14_4 : Int).toNat * 6, none⟩ = some (.int .i64 ((rd_T39 x8_4 x14_4).f0)) := hcc37 0 _ rfl
                                  have hx37_1 : wr.cell? ⟨go37, (x14_4 : Int).toNat * 6 + 1, none⟩ = some (.int .i64 ((rd_T39 x8_4 x14_4).f1)) := hcc37 1 _ rfl
                                  have hx37_2 : wr.cell? ⟨go37, (x14_4 : Int).toNat * 6 + 2, none⟩ = some (.string ((rd_T39 x8_4 x14_4).f2)) := hcc37 2 _ rfl
                                  have hx37_3 : wr.cell? ⟨go37, (x14_4 : Int).toNat * 6 + 3, none⟩ = some (.string ((rd_T39 x8_4 x14_4).f3)) := hcc37 3 _ rfl
                                  have hx37_4 : wr.cell? ⟨go37, (x14_4 : Int).toNat * 6 + 4, none⟩ = some (ve37_4) := hcc37 4 _ rfl
                                  have hx37_5 : wr.cell? ⟨go37, (x14_4 : Int).toNat * 6 + 5, none⟩ = some (.bool ((rd_T39 x8_4 x14_4).f5)) := hcc37 5 _ rfl
                                  have hf37_0 : wr.frozen? ⟨go37, (x14_4 : Int).toNat * 6, none⟩ = false := hfr37 0
                                  have hf37_1 : wr.frozen? ⟨go37, (x14_4 : Int).toNat * 6 + 1, none⟩ = false := hfr37 1
                                  have hf37_2 : wr.frozen? ⟨go37, (x14_4 : Int).toNat * 6 + 2, none⟩ = false := hfr37 2
                                  have hf37_3 : wr.frozen? ⟨go37, (x14_4 : Int).toNat * 6 + 3, none⟩ = false := hfr37 3
                                  have hf37_4 : wr.frozen? ⟨go37, (x14_4 : Int).toNat * 6 + 4, none⟩ = false := hfr37 4
                                  have hf37_5 : wr.frozen? ⟨go37, (x14_4 : Int).toNat * 6 + 5, none⟩ = false := hfr37 5
                                  clear hcl37 hcc37 hfr37 hM37
                                  replace p37 := eq_true p37
                                  replace q37 := eq_true q37
                                  have HX39 := Aside0.mk (show Kd.S k39 39 wr w.heap.size (fun k_ => ((fun k_ => some k_ ≠ (v317 : Value).ownBlock ∧ some k_ ≠ (v327 : Value).ownBlock)) k_ ∧ ¬ ((fun _ => False)) k_) (.slice (some ⟨go37, 0, none⟩) x8_4.length co38) x8_4 from (by (with_reducible repeat (first | apply Kd.S_alloc | apply Kd.S_drewN | apply Kd.S_drew)); exact Kd.S_mono HO_8.out (fun k_ hk => ⟨⟨hk.1, hk.2⟩, fun e_ => e_⟩)))
                                  obtain ⟨oki39, ce39, hcl39, hM39, hcc39, hfr39, hoki39, hH39⟩ := Kd.S_elem HX39.out z39 (x14_4 : Int) (of_decide_eq_true (by first | (with_reducible assumption) | assumption)) (by have h_ : (x14_4 : Int) < ((x8_4.length : Int) : Int) := of_decide_eq_true (by first | (with_reducible assumption) | assumption); first | exact h_ | (have e_ := (Kd.S_reads' HO_8.out).1; omega) | simpa using h_)
                                  obtain ⟨ve39_4, rfl, ge39_4⟩ := k39_openM hM39
                                  have HP39 := Kd.S_seg hH39 (of_decide_eq_true (by first | (with_reducible assumption) | assumption)) (by have h_ : (x14_4 : Int) < ((x8_4.length : Int) : Int) := of_decide_eq_true (by first | (with_reducible assumption) | assumption); first | exact h_ | (have e_ := (Kd.S_reads' HO_8.out).1; omega) | simpa using h_) (seg := [.int .i64 (wrap64 (((rd_T39 x8_4 x14_4).f1) + (a0.size : Int)))]) (j := 1) (show 2 ≤ 6 from by decide) (x' := (⟨(rd_T39 x8_4 x14_4).f0, wrap64 (((rd_T39 x8_4 x14_4).f1) + (a0.size : Int)), (rd_T39 x8_4 x14_4).f2, (rd_T39 x8_4 x14_4).f3, (rd_T39 x8_4 x14_4).f4, (rd_T39 x8_4 x14_4).f5⟩ : S39)) (k39_mkM _ _ _ (⟨(rd_T39 x8_4 x14_4).f0, wrap64 (((rd_T39 x8_4 x14_4).f1) + (a0.size : Int)), (rd_T39 x8_4 x14_4).f2, (rd_T39 x8_4 x14_4).f3, (rd_T39 x8_4 x14_4).f4, (rd_T39 x8_4 x14_4).f5⟩ : S39) (Kd.R_mono ge39_4 (fun _ h_ => Or.inl h_))) (fun _ hk => hk) (fun k_ hk_ => hk_.elim)
                                  have hx39_1 := hcc39 1 _ rfl
                                  (try simp only [show (k39).sz = 6 from rfl, Nat.mul_one, Nat.add_zero] at hx39_1)
                                  have hf39_1 := hfr39 1
                                  (try simp only [show (k39).sz = 6 from rfl, Nat.mul_one, Nat.add_zero] at hf39_1)
                                  clear hcl39 hcc39 hfr39 hM39 hoki39 hH39
                                  go_wp2_with (first | ((with_reducible refine gate_store (t := 3) (p := 94) rfl ?_); refine store_event (t := 3) (p := 94) (v := ?vo_w40) (w1 := (wr.setCell ⟨go37, (x14_4 : Int).toNat * 6 + 1, none⟩ (.int .i64 (wrap64 (((rd_T39 x8_4 x14_4).f1) + (a0.size : Int)))))) ?hg ?ho ?hn ?hr ?_; (case ho => rfl); (case hg => rfl); (case hn => rfl); (case hr => first | (go_simp; done) | (go_simp; rfl)); intro w40 hw; have hg : wr.grownBy w40 (some go37) := (by rw [hw]; exact HP39.2); have hp_ : Kd.S k39 39 w40 w.heap.size (fun k_ => some k_ ≠ (v317 : Value).ownBlock ∧ some k_ ≠ (v327 : Value).ownBlock) (.slice (some ⟨go37, 0, none⟩) x8_4.length co38) y331 := (by rw [hw, Ny331.out]; exact HP39.1); clear HP39; have n0_ := Aside0.mk (Kd.S_after (v := (.slice (some ⟨go37, 0, none⟩) x8_4.length co38)) (v1 := (.slice (some ⟨go37, 0, none⟩) x8_4.length co38)) (ok := (fun k_ => some k_ ≠ (v327 : Value).ownBlock)) (by (with_reducible repeat (first | apply Kd.S_alloc | apply Kd.S_drewN | apply Kd.S_drew)); exact Kd.S_mono HO_5.out (fun _ hk => ⟨hk.2, hk.1⟩)) hg (.inl rfl)); have n1_ := Aside0.mk (hp_); have n2_ := Aside0.mk (Kd.S_after (v := (.slice (some ⟨go37, 0, none⟩) x8_4.length co38)) (v1 := (.slice (some ⟨go37, 0, none⟩) x8_4.length co38)) (ok := (fun k_ => some k_ ≠ (v317 : Value).ownBlock)) (by (with_reducible repeat (first | apply Kd.S_alloc | apply Kd.S_drewN | apply Kd.S_drew)); exact HO_11.out) hg (.inl rfl)); have n3_ := Aside0.mk (Kd.R_after (v := (.slice (some ⟨go37, 0, none⟩) x8_4.length co38)) (v1 := (.slice (some ⟨go37, 0, none⟩) x8_4.length co38)) (ok := (fun k_ => some k_ ≠ (v317 : Value).ownBlock ∧ some k_ ≠ (v327 : Value).ownBlock)) (by (with_reducible repeat (first | apply Kd.R_alloc | apply Kd.R_drewN | apply Kd.R_drew)); exact HL330_4.out) hg (.inl rfl)); have n4_ := Aside0.mk ((by rw [hw]; exact below_set (HB.out) GB37.out : Below w.heap.size w w40)); clear HO_5; clear HO_8; clear HO_11; clear HL330_4; clear HB; have HO_5 := n0_; have HO_8 := n1_; have HO_11 := n2_; have HL330_4 := n3_; have HB := n4_; clear n0_ n1_ n2_ n3_ n4_; clear hg hw hp_))
                                  go_roundg k4
                                  case measure => have := HJ2.out; have := HJ14.out; have := HJ23.out; have := HK4.out; omega
                                  case rel => exact ⟨(y331), (wrap64 (x14_4 + 1)), (by first | rfl | (simp; done) | exact congrArg Value.bool (nemp _) | exact congrArg Value.bool (emp _) | (simp [*]; done)), H', ⟨by have := HJ2.out; have := HJ14.out; have := HJ23.out; have := HK4.out; omega⟩, ⟨by (with_reducible repeat (first | apply Kd.S_alloc | apply Kd.S_drewN | apply Kd.S_drew)); exact Kd.S_mono HO_5.out (fun _ hk => ⟨hk.2, hk.1⟩)⟩, ⟨by (with_reducible repeat (first | apply Kd.S_alloc | apply Kd.S_drewN | apply Kd.S_drew)); exact HO_8.out⟩, ⟨by (with_reducible repeat (first | apply Kd.S_alloc | apply Kd.S_drewN | apply Kd.S_drew)); exact HO_11.out⟩, ⟨by repeat (first | (with_reducible first | exact HB.out | apply below_alloc | apply pw_below_drewN | apply below_drew1) | exact HB.out)⟩⟩
                                · rw [if_neg c36] at H
                                  exact absurd H (by simp)
                              · rw [if_neg c35] at H
                                have c35b0 : decide (x14_4 < (x8_4.length : Int)) = false := decide_eq_false c35
                                clear c35
                                replace H := Option.bind_eq_some_iff.mp H
                                obtain ⟨t332, A410, H⟩ := H
                                replace H : (if t332 = true then (if 0 ≤ (t314.length : Int) then (if (t314.length : Int) ≤ (t324.length : Int) then ((cardexhelp_Same_api_Token_cardexhelp_Token.f k4 (t324.take ((t314.length : Int) : Int).toNat) t314).bind fun t337 => (if t337 = true then (if 0 ≤ (wrap64 ((t314.length : Int) - 1)) then (if (wrap64 ((t314.length : Int) - 1)) ≤ (t324.length : Int) then ((cardexhelp_Same_api_Token_cardexhelp_Token.f k4 (t324.drop ((wrap64 ((t314.length : Int) - 1)) : Int).toNat) x8_4).bind fun t342 => (if t342 = true then (some true) else (some false))) else (none)) else (none)) else (some false))) else (none)) else (none)) else (some false)) = some r := H
                                have A41 := Aside0.mk A410
                                clear A410
                                by_cases c42 : t332 = true
                                · subst c42
                                  have H1 : (if 0 ≤ (t314.length : Int) then (if (t314.length : Int) ≤ (t324.length : Int) then ((cardexhelp_Same_api_Token_cardexhelp_Token.f k4 (t324.take ((t314.length : Int) : Int).toNat) t314).bind fun t337 => (if t337 = true then (if 0 ≤ (wrap64 ((t314.length : Int) - 1)) then (if (wrap64 ((t314.length : Int) - 1)) ≤ (t324.length : Int) then ((cardexhelp_Same_api_Token_cardexhelp_Token.f k4 (t324.drop ((wrap64 ((t314.length : Int) - 1)) : Int).toNat) x8_4).bind fun t342 => (if t342 = true then (some true) else (some false))) else (none)) else (none)) else (some false))) else (none)) else (none)) = some r := by rw [if_pos rfl] at H; exact H
                                  clear H
                                  have H := H1
                                  clear H1
                                  by_cases c43 : 0 ≤ (t314.length : Int)
                                  · rw [if_pos c43] at H
                                    have c43b0 := eq_true c43
                                    have c43b1 : decide (0 ≤ (t314.length : Int)) = true := decide_eq_true c43
                                    clear c43
                                    by_cases c44 : (t314.length : Int) ≤ (t324.length : Int)
                                    · rw [if_pos c44] at H
                                      have c44b0 := eq_true c44
                                      have c44b1 : decide ((t314.length : Int) ≤ (t324.length : Int)) = true := decide_eq_true c44
                                      clear c44
                                      obtain ⟨y333, hy333⟩ : ∃ y_ : List (S39), y_ = (t324.take ((t314.length : Int) : Int).toNat) := ⟨_, rfl⟩
                                      replace H : ((cardexhelp_Same_api_Token_cardexhelp_Token.f k4 y333 t314).bind fun t337 => (if t337 = true then (if 0 ≤ (wrap64 ((t314.length : Int) - 1)) then (if (wrap64 ((t314.length : Int) - 1)) ≤ (t324.length : Int) then ((cardexhelp_Same_api_Token_cardexhelp_Token.f k4 (t324.drop ((wrap64 ((t314.length : Int) - 1)) : Int).toNat) x8_4).bind fun t342 => (if t342 = true then (some true) else (some false))) else (none)) else (none)) else (some false))) = some r := by first | (rw [hy333]; with_reducible exact H) | (have H2_ := (Option.bind_some _ _).symm.trans H; rw [hy333]; with_reducible exact H2_) | (have H2_ := (Option.bind_some _ _).symm.trans H; with_reducible exact H2_) | with_reducible exact H | (rw [hy333]; exact H) | exact H
                                      have Ny333 := Aside0.mk hy333
                                      clear hy333
                                      replace H := Option.bind_eq_some_iff.mp H
                                      obtain ⟨t337, A450, H⟩ := H
                                      replace H : (if t337 = true then (if 0 ≤ (wrap64 ((t314.length : Int) - 1)) then (if (wrap64 ((t314.length : Int) - 1)) ≤ (t324.length : Int) then ((cardexhelp_Same_api_Token_cardexhelp_Token.f k4 (t324.drop ((wrap64 ((t314.length : Int) - 1)) : Int).toNat) x8_4).bind fun t342 => (if t342 = true then (some true) else (some false))) else (none)) else (none)) else (some false)) = some r := H
                                      have A45 := Aside0.mk A450
                                      clear A450
                                      by_cases c46 : t337 = true
                                      · subst c46
                                        have H1 : (if 0 ≤ (wrap64 ((t314.length : Int) - 1)) then (if (wrap64 ((t314.length : Int) - 1)) ≤ (t324.length : Int) then ((cardexhelp_Same_api_Token_cardexhelp_Token.f k4 (t324.drop ((wrap64 ((t314.length : Int) - 1)) : Int).toNat) x8_4).bind fun t342 => (if t342 = true then (some true) else (some false))) else (none)) else (none)) = some r := by rw [if_pos rfl] at H; exact H
                                        clear H
                                        have H := H1
                                        clear H1
                                        obtain ⟨ji47, hji47⟩ : ∃ j_ : Int, (wrap64 ((t314.length : Int) - 1)) = j_ := ⟨_, rfl⟩
                                        replace H : (if 0 ≤ (ji47) then (if (ji47) ≤ (t324.length : Int) then ((cardexhelp_Same_api_Token_cardexhelp_Token.f k4 (t324.drop ((ji47) : Int).toNat) x8_4).bind fun t342 => (if t342 = true then (some true) else (some false))) else (none)) else (none)) = some r := by first | (rw [hji47] at H; exact H) | (simp only [hji47] at H ⊢; exact H)
                                        (try rw [hji47] at A41)
                                        (try rw [hji47] at A45)
                                        have hji47w : (IntKind.i64.wrap ((t314.length : Int) - 1)) = ji47 := (i64_w _).trans hji47
                                        by_cases c48 : 0 ≤ (ji47)
                                        · rw [if_pos c48] at H
                                          have c48b0 := eq_true c48
                                          have c48b1 : decide (0 ≤ (ji47)) = true := decide_eq_true c48
                                          clear c48
                                          by_cases c49 : (ji47) ≤ (t324.length : Int)
                                          · rw [if_pos c49] at H
                                            have c49b0 := eq_true c49
                                            have c49b1 : decide ((ji47) ≤ (t324.length : Int)) = true := decide_eq_true c49
                                            clear c49
                                            obtain ⟨y338, hy338⟩ : ∃ y_ : List (S39), y_ = (t324.drop ((ji47) : Int).toNat) := ⟨_, rfl⟩
                                            replace H : ((cardexhelp_Same_api_Token_cardexhelp_Token.f k4 y338 x8_4).bind fun t342 => (if t342 = true then (some true) else (some false))) = some r := by first | (rw [hy338]; with_reducible exact H) | (have H2_ := (Option.bind_some _ _).symm.trans H; rw [hy338]; with_reducible exact H2_) | (have H2_ := (Option.bind_some _ _).symm.trans H; with_reducible exact H2_) | with_reducible exact H | (rw [hy338]; exact H) | exact H
                                            have Ny338 := Aside0.mk hy338
                                            clear hy338
                                            replace H := Option.bind_eq_some_iff.mp H
                                            obtain ⟨t342, A500, H⟩ := H
                                            replace H : (if t342 = true then (some true) else (some false)) = some r := H
                                            have A50 := Aside0.mk A500
                                            clear A500
                                            by_cases c51 : t342 = true
                                            · subst c51
                                              have H1 : (some true) = some r := by rw [if_pos rfl] at H; exact H
                                              clear H
                                              have H := H1
                                              clear H1
                                              obtain rfl := Option.some.inj H
                                              obtain ⟨Ao52, co52, eo52⟩ := Kd.S_slice HO_8.out
                                              subst eo52
                                              go_wp2_with (first | ((with_reducible refine gate_callee (f := 20) rfl ?_); refine goesL_ (some 95) rfl rfl Tryd.func20 (by kernel_rfl) rfl #[] rfl (by (try simp only [List.map_toArray, List.map_cons, List.map_nil]); first | done | rfl | (simp only [List.length_drop, List.length_take]; rfl)) ?_; (with_reducible refine (cardexlaw08_awake.calls k4  true _ A41.out (tabs_b HT.out (by repeat (first | (with_reducible first | exact HB.out | apply below_alloc | apply pw_below_drewN | apply below_drew1) | exact HB.out)))).mono ?_); rintro e w53 ⟨rfl, hb⟩; refine ⟨_, rfl, ?_⟩; have n0_ := Aside0.mk (Kd.S_below (by (with_reducible repeat (first | apply Kd.S_alloc | apply Kd.S_drewN | apply Kd.S_drew)); exact HO_5.out) hb); have n1_ := Aside0.mk (Kd.S_below (by (with_reducible repeat (first | apply Kd.S_alloc | apply Kd.S_drewN | apply Kd.S_drew)); exact HO_8.out) hb); have n2_ := Aside0.mk (Kd.S_below (by (with_reducible repeat (first | apply Kd.S_alloc | apply Kd.S_drewN | apply Kd.S_drew)); exact HO_11.out) hb); have n3_ := Aside0.mk (below_step (by repeat (first | (with_reducible first | exact HB.out | apply below_alloc | apply pw_below_drewN | apply below_drew1) | exact HB.out)) hb); clear HO_5; clear HO_8; clear HO_11; clear HB; have HO_5 := n0_; have HO_8 := n1_; have HO_11 := n2_; have HB := n3_; clear n0_ n1_ n2_ n3_; (try clear hb); (try clear hb2); (try clear hk); (try clear hi); obtain ⟨Ao54, co54, eo54⟩ := Kd.S_slice HO_5.out; subst eo54; obtain ⟨Ao56, co56, eo56⟩ := Kd.S_slice HO_11.out; subst eo56; have q55 : ((t314.length : Int) : Int) ≤ ((t324.length : Int) : Int) := of_decide_eq_true (by first | (with_reducible assumption) | assumption); obtain ⟨i055, hi055, _, hsz55, _⟩ := info_parts info39; have hroom55 : t324.length ≤ co56 := (Kd.S_reads' HO_11.out).2.1; have hC55 : Kd.C k39 _ Ao56 t324.length t324 := (Kd.S_reads' HO_11.out).2.2; have hcut55 := cut_to (P := Tryd.prog) 34 39 .i64 Tryd.underlying34 hi055 Ao56 t324.length co56 (t314.length : Int) (of_decide_eq_true (by first | (with_reducible assumption) | assumption)) q55 hroom55; have hr55 := Kd.C_take (m := ((t314.length : Int) : Int).toNat) hC55 (by omega); have hy55 : y333.length = ((t314.length : Int) : Int).toNat := (by rw [Ny333.out, List.length_take]; omega); rw [← Ny333.out] at hr55; rw [← hy55] at hcut55; have HR336 := Aside0.mk hr55; have HC336 := Aside0.mk (show y333.length ≤ co56 from by omega); clear hr55 hC55 hroom55 hi055 hsz55; have KY55 := Aside0.mk hy55; clear hy55; have KL55 := Aside0.mk (show ((t314.length : Int) : Int).toNat ≤ t324.length from by omega); replace q55 := eq_true q55) | (go_at_call 22; (with_reducible refine (cardexhelp_Same_api_Token_cardexhelp_Token.calls k4 _ _ y333 _ _ t314  true _ ?side1 ?side2 ?side3 ?side4 A45.out).mono ?_); (case side1 => repeat (first | exact (by repeat (first | (with_reducible exact HR336.out) | (with_reducible refine Kd.C_alloc ?_ _) | (with_reducible refine Kd.C_drewN ?_ _) | (with_reducible refine Kd.C_drew ?_) | exact HR336.out)) | (with_reducible refine Kd.C_alloc ?_ _) | (with_reducible refine Kd.C_drewN ?_ _) | (with_reducible refine Kd.C_drew ?_))); (case side2 => exact HC336.out); (case side3 => repeat (first | exact (Kd.S_reads' HO_5.out).2.2 | (with_reducible refine Kd.C_alloc ?_ _) | (with_reducible refine Kd.C_drewN ?_ _) | (with_reducible refine Kd.C_drew ?_))); (case side4 => exact (Kd.S_reads' HO_5.out).2.1); rintro e w57 ⟨rfl, hb⟩; have n0_ := Aside0.mk (Kd.S_below (by (with_reducible repeat (first | apply Kd.S_alloc | apply Kd.S_drewN | apply Kd.S_drew)); exact HO_5.out) hb); have n1_ := Aside0.mk (Kd.S_below (by (with_reducible repeat (first | apply Kd.S_alloc | apply Kd.S_drewN | apply Kd.S_drew)); exact HO_8.out) hb); have n2_ := Aside0.mk (Kd.S_below (by (with_reducible repeat (first | apply Kd.S_alloc | apply Kd.S_drewN | apply Kd.S_drew)); exact HO_11.out) hb); have n3_ := Aside0.mk (Kd.C_below (by repeat (first | (with_reducible exact HR336.out) | (with_reducible refine Kd.C_alloc ?_ _) | (with_reducible refine Kd.C_drewN ?_ _) | (with_reducible refine Kd.C_drew ?_) | exact HR336.out)) hb); have n4_ := Aside0.mk (below_step (by repeat (first | (with_reducible first | exact HB.out | apply below_alloc | apply pw_below_drewN | apply below_drew1) | exact HB.out)) hb); clear HO_5; clear HO_8; clear HO_11; clear HR336; clear HB; have HO_5 := n0_; have HO_8 := n1_; have HO_11 := n2_; have HR336 := n3_; have HB := n4_; clear n0_ n1_ n2_ n3_ n4_; (try clear hb); (try clear hb2); (try clear hk); (try clear hi); have q58 : ((ji47) : Int) ≤ ((t324.length : Int) : Int) := of_decide_eq_true (by first | (with_reducible assumption) | assumption); obtain ⟨i058, hi058, _, hsz58, _⟩ := info_parts info39; have hroom58 : t324.length ≤ co56 := (Kd.S_reads' HO_11.out).2.1; have hC58 : Kd.C k39 _ Ao56 t324.length t324 := (Kd.S_reads' HO_11.out).2.2; have q058 : (0 : Int) ≤ ((ji47) : Int) := of_decide_eq_true (by first | (with_reducible assumption) | assumption); have hcut58 := cut_from (P := Tryd.prog) 34 39 .i64 Tryd.underlying34 hi058 6 hsz58 Ao56 t324.length co56 (ji47) q058 q58; have hr58 := Kd.C_drop (m := ((ji47) : Int).toNat) (c := co56) hC58 (by omega) hroom58; obtain ⟨A58, hA58⟩ : ∃ A1, A1 = (if co56 = ((ji47) : Int).toNat then Ao56 else (Ao56 : Option Addr).map (·.add (((ji47) : Int).toNat * 6))) := ⟨_, rfl⟩; obtain ⟨c58, hc58⟩ : ∃ c1, c1 = co56 - ((ji47) : Int).toNat := ⟨_, rfl⟩; have hy58 : y338.length = t324.length - ((ji47) : Int).toNat := (by rw [Ny338.out, List.length_drop] <;> omega); rw [show (t324).drop ((ji47) : Int).toNat = y338 from Ny338.out.symm] at hr58; replace hr58 : Kd.C k39 _ A58 y338.length y338 := (by rw [hA58]; exact hr58); rw [← hy58, ← hA58, ← hc58] at hcut58; have HR341 := Aside0.mk hr58; have HC341 := Aside0.mk (show y338.length ≤ c58 from by rw [hy58, hc58]; exact Nat.sub_le_sub_right hroom58 _); clear hr58 hC58 hroom58 hi058 hsz58 hc58; have KY58 := Aside0.mk hy58; have KA58 := Aside0.mk hA58; clear hy58 hA58; have KL58 := Aside0.mk (show ((ji47) : Int).toNat ≤ t324.length from by omega); replace q58 := eq_true q58) | (go_at_call 22; (with_reducible refine (cardexhelp_Same_api_Token_cardexhelp_Token.calls k4 _ _ y338 _ _ x8_4  true _ ?side1 ?side2 ?side3 ?side4 A50.out).mono ?_); (case side1 => repeat (first | exact (by repeat (first | (with_reducible exact HR341.out) | (with_reducible refine Kd.C_alloc ?_ _) | (with_reducible refine Kd.C_drewN ?_ _) | (with_reducible refine Kd.C_drew ?_) | exact HR341.out)) | (with_reducible refine Kd.C_alloc ?_ _) | (with_reducible refine Kd.C_drewN ?_ _) | (with_reducible refine Kd.C_drew ?_))); (case side2 => exact HC341.out); (case side3 => repeat (first | exact (Kd.S_reads' HO_8.out).2.2 | (with_reducible refine Kd.C_alloc ?_ _) | (with_reducible refine Kd.C_drewN ?_ _) | (with_reducible refine Kd.C_drew ?_))); (case side4 => exact (Kd.S_reads' HO_8.out).2.1); rintro e w59 ⟨rfl, hb⟩; have n0_ := Aside0.mk (Kd.S_below (by (with_reducible repeat (first | apply Kd.S_alloc | apply Kd.S_drewN | apply Kd.S_drew)); exact HO_5.out) hb); have n1_ := Aside0.mk (Kd.S_below (by (with_reducible repeat (first | apply Kd.S_alloc | apply Kd.S_drewN | apply Kd.S_drew)); exact HO_8.out) hb); have n2_ := Aside0.mk (Kd.S_below (by (with_reducible repeat (first | apply Kd.S_alloc | apply Kd.S_drewN | apply Kd.S_drew)); exact HO_11.out) hb); have n3_ := Aside0.mk (Kd.C_below (by repeat (first | (with_reducible exact HR336.out) | (with_reducible refine Kd.C_alloc ?_ _) | (with_reducible refine Kd.C_drewN ?_ _) | (with_reducible refine Kd.C_drew ?_) | exact HR336.out)) hb); have n4_ := Aside0.mk (Kd.C_below (by repeat (first | (with_reducible exact HR341.out) | (with_reducible refine Kd.C_alloc ?_ _) | (with_reducible refine Kd.C_drewN ?_ _) | (with_reducible refine Kd.C_drew ?_) | exact HR341.out)) hb); have n5_ := Aside0.mk (below_step (by repeat (first | (with_reducible first | exact HB.out | apply below_alloc | apply pw_below_drewN | apply below_drew1) | exact HB.out)) hb); clear HO_5; clear HO_8; clear HO_11; clear HR336; clear HR341; clear HB; have HO_5 := n0_; have HO_8 := n1_; have HO_11 := n2_; have HR336 := n3_; have HR341 := n4_; have HB := n5_; clear n0_ n1_ n2_ n3_ n4_ n5_; (try clear hb); (try clear hb2); (try clear hk); (try clear hi)))
                                              go_ret
                                              exact ⟨by first | rfl | (simp only [nemp]; rfl) | (simp [errW_none, errW_some] <;> rfl) | (simp only [← hji47]; first | rfl | (simp [errW_none, errW_some] <;> rfl)) | (simp [*, errW_none, errW_some] <;> rfl), by repeat (first | (with_reducible first | exact HB.out | apply below_alloc | apply pw_below_drewN | apply below_drew1) | exact HB.out)⟩
                                            · replace c51 := Bool.eq_false_iff.mpr c51
                                              subst c51
                                              have H1 : (some false) = some r := by rw [if_neg (show ¬ (false = true) by decide)] at H; exact H
                                              clear H
                                              have H := H1
                                              clear H1
                                              exact absurd ((Option.some.inj H).trans HLAW.out) (by decide)
                                          · rw [if_neg c49] at H
                                            exact absurd H (by simp)
                                        · rw [if_neg c48] at H
                                          exact absurd H (by simp)
                                      · replace c46 := Bool.eq_false_iff.mpr c46
                                        subst c46
                                        have H1 : (some false) = some r := by rw [if_neg (show ¬ (false = true) by decide)] at H; exact H
                                        clear H
                                        have H := H1
                                        clear H1
                                        exact absurd ((Option.some.inj H).trans HLAW.out) (by decide)
                                    · rw [if_neg c44] at H
                                      exact absurd H (by simp)
                                  · rw [if_neg c43] at H
                                    exact absurd H (by simp)
                                · replace c42 := Bool.eq_false_iff.mpr c42
                                  subst c42
                                  have H1 : (some false) = some r := by rw [if_neg (show ¬ (false = true) by decide)] at H; exact H
                                  clear H
                                  have H := H1
                                  clear H1
                                  exact absurd ((Option.some.inj H).trans HLAW.out) (by decide)
            · rw [if_neg c13] at H
              exact absurd H (by simp)
          · rw [if_neg c11] at H
            exact absurd H (by simp)
        · rw [if_neg c9] at H
          exact absurd H (by simp)
end Go.Proofs.YtjijbncheikagaaDoor.Q
