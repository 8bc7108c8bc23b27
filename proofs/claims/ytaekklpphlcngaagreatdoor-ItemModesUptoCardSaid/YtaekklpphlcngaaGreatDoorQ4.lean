-- Written by hookprint.py (wip/) of this session: the kit's print with hand-proved functions beside it. Not trusted: Lean checks it.
import Derived.Test.YtaekklpphlcngaaGreatDoorQ0
import Derived.Test.YtaekklpphlcngaaGreatDoorQ1
import Derived.Test.YtaekklpphlcngaaGreatDoorQ2
import Derived.Test.YtaekklpphlcngaaGreatDoorQ3
namespace Go.Proofs.YtaekklpphlcngaaGreatDoor.Q
open List (setIfInBounds_toArray set_cons_zero set_cons_succ)
open Go.RowKit Go.Lib Go.Proofs.YtaekklpphlcngaaGreatDoorX Go.Proofs.YtaekklpphlcngaaGreatDoorW.PrintWords Go.Proofs.YtaekklpphlcngaaGreatDoorW.PrintLast Go.Proofs.YtaekklpphlcngaaGreatDoorW.PrintMore
set_option linter.unusedVariables false
set_option linter.unusedSimpArgs false
def prep_Host_1.f (a0 : Int) : Option (Bool) := if a0 ≥ 48 then (if a0 ≤ 57 then (some true) else (if a0 = 45 then (some true) else (if a0 = 46 then (some true) else ((ranges_Letters.f).bind fun t201 => ((ranges_In.f t201 a0).bind fun t204 => (if t204 = true then (some true) else ((ranges_RightLeft.f).bind fun t205 => ((ranges_In.f t205 a0).bind fun t208 => (some t208))))))))) else (if a0 = 45 then (some true) else (if a0 = 46 then (some true) else ((ranges_Letters.f).bind fun t209 => ((ranges_In.f t209 a0).bind fun t212 => (if t212 = true then (some true) else ((ranges_RightLeft.f).bind fun t213 => ((ranges_In.f t213 a0).bind fun t216 => (some t216))))))))
set_option maxRecDepth 100000 in
theorem lf10 {P : Prop} (h : P := by
 go_enter Tryz.func83, Tryz.ntmps83
 go_wp2_with (first | (go_at_call 85; (with_reducible refine (ranges_Letters.calls  t201 _ A6.out).mono ?_); rintro e v0_ ⟨v202, rfl, ho0, hb⟩; have n_ := as2 (Kd.R_lower ho0 (below_size zz0)) (below_step zz0 hb); clear HB; obtain ⟨HO203, HB⟩ := n_; (try clear hb ho0); obtain ⟨Ao10, co10, eo10⟩ := Kd.R_slice HO203.out; subst eo10) | (go_at_call 84; (with_reducible refine (ranges_In.calls _ _ t201 a0 true _ ?side1 ?side2 A7.out).mono ?_); (case side1 => exact (by repeat (first | exact (Kd.R_reads' HO203.out).2.2 | (with_reducible refine Kd.C_alloc ?_ _) | (with_reducible refine Kd.C_drewN ?_ _) | (with_reducible refine Kd.C_drew ?_)))); (case side2 => exact (Kd.R_reads' HO203.out).2.1); rintro e v1_ ⟨rfl, hb⟩; have n_ := as2 (Kd.R_below zz61 hb) (below_step zz0 hb); clear HO203 HB; obtain ⟨HO203, HB⟩ := n_; (try clear hb)) | (go_at_call 85; (with_reducible refine (ranges_Letters.calls  t209 _ A22.out).mono ?_); rintro e v0_ ⟨v210, rfl, ho0, hb⟩; have n_ := as2 (Kd.R_lower ho0 (below_size zz0)) (below_step zz0 hb); clear HB; obtain ⟨HO211, HB⟩ := n_; (try clear hb ho0); obtain ⟨Ao26, co26, eo26⟩ := Kd.R_slice HO211.out; subst eo26) | (go_at_call 84; (with_reducible refine (ranges_In.calls _ _ t209 a0 true _ ?side1 ?side2 A23.out).mono ?_); (case side1 => exact (by repeat (first | exact (Kd.R_reads' HO211.out).2.2 | (with_reducible refine Kd.C_alloc ?_ _) | (with_reducible refine Kd.C_drewN ?_ _) | (with_reducible refine Kd.C_drew ?_)))); (case side2 => exact (Kd.R_reads' HO211.out).2.1); rintro e v1_ ⟨rfl, hb⟩; have n_ := as2 (Kd.R_below zz60 hb) (below_step zz0 hb); clear HO211 HB; obtain ⟨HO211, HB⟩ := n_; (try clear hb)) | (go_at_call 85; (with_reducible refine (ranges_Letters.calls  t201 _ A6.out).mono ?_); rintro e v0_ ⟨v202, rfl, ho0, hb⟩; have n_ := as2 (Kd.R_lower ho0 (below_size zz0)) (below_step zz0 hb); clear HB; obtain ⟨HO203, HB⟩ := n_; (try clear hb ho0); obtain ⟨Ao15, co15, eo15⟩ := Kd.R_slice HO203.out; subst eo15) | (go_at_call 84; (with_reducible refine (ranges_In.calls _ _ t201 a0 false _ ?side1 ?side2 A7.out).mono ?_); (case side1 => exact (by repeat (first | exact (Kd.R_reads' HO203.out).2.2 | (with_reducible refine Kd.C_alloc ?_ _) | (with_reducible refine Kd.C_drewN ?_ _) | (with_reducible refine Kd.C_drew ?_)))); (case side2 => exact (Kd.R_reads' HO203.out).2.1); rintro e v1_ ⟨rfl, hb⟩; have n_ := as2 (Kd.R_below zz61 hb) (below_step zz0 hb); clear HO203 HB; obtain ⟨HO203, HB⟩ := n_; (try clear hb)) | (go_at_call 86; (with_reducible refine (ranges_RightLeft.calls  t205 _ A12.out).mono ?_); rintro e v2_ ⟨v206, rfl, ho0, hb⟩; have n_ := as3 (Kd.R_elder' zz61 (Kd.R_base ho0) hb) (Kd.R_lower (Kd.R_new' ho0 (Kd.R_lt zz61)) (below_size zz0)) (below_step zz0 hb); clear HO203 HB; obtain ⟨HO203, HO207, HB⟩ := n_; (try clear hb ho0); obtain ⟨Ao18, co18, eo18⟩ := Kd.R_slice HO207.out; subst eo18) | (go_at_call 84; (with_reducible refine (ranges_In.calls _ _ t205 a0 t208 _ ?side1 ?side2 A13.out).mono ?_); (case side1 => exact (by repeat (first | exact (Kd.R_reads' HO207.out).2.2 | (with_reducible refine Kd.C_alloc ?_ _) | (with_reducible refine Kd.C_drewN ?_ _) | (with_reducible refine Kd.C_drew ?_)))); (case side2 => exact (Kd.R_reads' HO207.out).2.1); rintro e v3_ ⟨rfl, hb⟩; have n_ := as3 (Kd.R_below zz61 hb) (Kd.R_below (by (with_reducible repeat (first | apply Kd.R_alloc | apply Kd.R_drewN | apply Kd.R_drew)); exact HO207.out) hb) (below_step zz0 hb); clear HO203 HO207 HB; obtain ⟨HO203, HO207, HB⟩ := n_; (try clear hb)) | (go_at_call 85; (with_reducible refine (ranges_Letters.calls  t209 _ A22.out).mono ?_); rintro e v0_ ⟨v210, rfl, ho0, hb⟩; have n_ := as2 (Kd.R_lower ho0 (below_size zz0)) (below_step zz0 hb); clear HB; obtain ⟨HO211, HB⟩ := n_; (try clear hb ho0); obtain ⟨Ao31, co31, eo31⟩ := Kd.R_slice HO211.out; subst eo31) | (go_at_call 84; (with_reducible refine (ranges_In.calls _ _ t209 a0 false _ ?side1 ?side2 A23.out).mono ?_); (case side1 => exact (by repeat (first | exact (Kd.R_reads' HO211.out).2.2 | (with_reducible refine Kd.C_alloc ?_ _) | (with_reducible refine Kd.C_drewN ?_ _) | (with_reducible refine Kd.C_drew ?_)))); (case side2 => exact (Kd.R_reads' HO211.out).2.1); rintro e v1_ ⟨rfl, hb⟩; have n_ := as2 (Kd.R_below zz60 hb) (below_step zz0 hb); clear HO211 HB; obtain ⟨HO211, HB⟩ := n_; (try clear hb)) | (go_at_call 86; (with_reducible refine (ranges_RightLeft.calls  t213 _ A28.out).mono ?_); rintro e v2_ ⟨v214, rfl, ho0, hb⟩; have n_ := as3 (Kd.R_elder' zz60 (Kd.R_base ho0) hb) (Kd.R_lower (Kd.R_new' ho0 (Kd.R_lt zz60)) (below_size zz0)) (below_step zz0 hb); clear HO211 HB; obtain ⟨HO211, HO215, HB⟩ := n_; (try clear hb ho0); obtain ⟨Ao34, co34, eo34⟩ := Kd.R_slice HO215.out; subst eo34) | (go_at_call 84; (with_reducible refine (ranges_In.calls _ _ t213 a0 t216 _ ?side1 ?side2 A29.out).mono ?_); (case side1 => exact (by repeat (first | exact (Kd.R_reads' HO215.out).2.2 | (with_reducible refine Kd.C_alloc ?_ _) | (with_reducible refine Kd.C_drewN ?_ _) | (with_reducible refine Kd.C_drew ?_)))); (case side2 => exact (Kd.R_reads' HO215.out).2.1); rintro e v3_ ⟨rfl, hb⟩; have n_ := as3 (Kd.R_below zz60 hb) (Kd.R_below (by (with_reducible repeat (first | apply Kd.R_alloc | apply Kd.R_drewN | apply Kd.R_drew)); exact HO215.out) hb) (below_step zz0 hb); clear HO211 HO215 HB; obtain ⟨HO211, HO215, HB⟩ := n_; (try clear hb)))
 go_ret; exact ⟨zz4, zz0⟩) : P := h
set_option maxHeartbeats 8000000 in
set_option maxRecDepth 100000 in
theorem prep_Host_1.calls (a0 : Int) (r : Bool) (w : World) (h : prep_Host_1.f a0 = some r) :
  Calls Tryz.prog 83 #[.int .i64 a0] w fun e w' => e = .returned (.bool r) ∧ Below w.heap.size w w' := by
 have HB := Aside0.mk (Below.refl w.heap.size w)
 have H : (if a0 ≥ 48 then (if a0 ≤ 57 then (some true) else (if a0 = 45 then (some true) else (if a0 = 46 then (some true) else ((ranges_Letters.f).bind fun t201 => ((ranges_In.f t201 a0).bind fun t204 => (if t204 = true then (some true) else ((ranges_RightLeft.f).bind fun t205 => ((ranges_In.f t205 a0).bind fun t208 => (some t208))))))))) else (if a0 = 45 then (some true) else (if a0 = 46 then (some true) else ((ranges_Letters.f).bind fun t209 => ((ranges_In.f t209 a0).bind fun t212 => (if t212 = true then (some true) else ((ranges_RightLeft.f).bind fun t213 => ((ranges_In.f t213 a0).bind fun t216 => (some t216))))))))) = some r := h
 clear h
 by_cases c2 : a0 ≥ 48
 ·rw [if_pos c2] at H
  have c2b0 := decide_eq_true c2
  clear c2
  by_cases c3 : a0 ≤ 57
  ·rw [if_pos c3] at H
   have c3b0 := decide_eq_true c3
   clear c3
   obtain rfl := Option.some.inj H
   exact lf10
  rw [if_neg c3] at H
  have c3b0 := decide_eq_false c3
  clear c3
  by_cases c4 : a0 = 45
  ·rw [if_pos c4] at H
   obtain ⟨c4b0, c4b1⟩ := eqT c4
   clear c4
   obtain rfl := Option.some.inj H
   exact lf10
  rw [if_neg c4] at H
  obtain ⟨c4b0, c4b1⟩ := eqF c4
  by_cases c5 : a0 = 46
  ·rw [if_pos c5] at H
   obtain ⟨c5b0, c5b1⟩ := eqT c5
   clear c5
   obtain rfl := Option.some.inj H
   exact lf10
  rw [if_neg c5] at H
  obtain ⟨c5b0, c5b1⟩ := eqF c5
  replace H := Option.bind_eq_some_iff.mp H
  obtain ⟨t201, A60, H⟩ := H
  try dsimp only at H
  have A6 := Aside0.mk A60
  clear A60
  replace H := Option.bind_eq_some_iff.mp H
  obtain ⟨t204, A70, H⟩ := H
  try dsimp only at H
  have A7 := Aside0.mk A70
  clear A70
  by_cases c8 : t204 = true
  ·subst c8
   have H1 : (some true) = some r := by rw [if_pos rfl] at H; exact H
   clear H
   have H := H1
   clear H1
   obtain rfl := Option.some.inj H
   exact lf10
  replace c8 := Bool.eq_false_iff.mpr c8
  subst c8
  have H1 : ((ranges_RightLeft.f).bind fun t205 => ((ranges_In.f t205 a0).bind fun t208 => (some t208))) = some r := by rw [if_neg (show ¬ (false = true) by decide)] at H; exact H
  clear H
  have H := H1
  clear H1
  replace H := Option.bind_eq_some_iff.mp H
  obtain ⟨t205, A120, H⟩ := H
  try dsimp only at H
  have A12 := Aside0.mk A120
  clear A120
  replace H := Option.bind_eq_some_iff.mp H
  obtain ⟨t208, A130, H⟩ := H
  try dsimp only at H
  have A13 := Aside0.mk A130
  clear A130
  obtain rfl := Option.some.inj H
  exact lf10
 rw [if_neg c2] at H
 have c2b0 := decide_eq_false c2
 clear c2
 by_cases c20 : a0 = 45
 ·rw [if_pos c20] at H
  obtain ⟨c20b0, c20b1⟩ := eqT c20
  clear c20
  obtain rfl := Option.some.inj H
  exact lf10
 rw [if_neg c20] at H
 obtain ⟨c20b0, c20b1⟩ := eqF c20
 by_cases c21 : a0 = 46
 ·rw [if_pos c21] at H
  obtain ⟨c21b0, c21b1⟩ := eqT c21
  clear c21
  obtain rfl := Option.some.inj H
  exact lf10
 rw [if_neg c21] at H
 obtain ⟨c21b0, c21b1⟩ := eqF c21
 replace H := Option.bind_eq_some_iff.mp H
 obtain ⟨t209, A220, H⟩ := H
 try dsimp only at H
 have A22 := Aside0.mk A220
 clear A220
 replace H := Option.bind_eq_some_iff.mp H
 obtain ⟨t212, A230, H⟩ := H
 try dsimp only at H
 have A23 := Aside0.mk A230
 clear A230
 by_cases c24 : t212 = true
 ·subst c24
  have H1 : (some true) = some r := by rw [if_pos rfl] at H; exact H
  clear H
  have H := H1
  clear H1
  obtain rfl := Option.some.inj H
  exact lf10
 replace c24 := Bool.eq_false_iff.mpr c24
 subst c24
 have H1 : ((ranges_RightLeft.f).bind fun t213 => ((ranges_In.f t213 a0).bind fun t216 => (some t216))) = some r := by rw [if_neg (show ¬ (false = true) by decide)] at H; exact H
 clear H
 have H := H1
 clear H1
 replace H := Option.bind_eq_some_iff.mp H
 obtain ⟨t213, A280, H⟩ := H
 try dsimp only at H
 have A28 := Aside0.mk A280
 clear A280
 replace H := Option.bind_eq_some_iff.mp H
 obtain ⟨t216, A290, H⟩ := H
 try dsimp only at H
 have A29 := Aside0.mk A290
 clear A290
 obtain rfl := Option.some.inj H
 exact lf10
def hostOk (c : Int) : Bool := (decide (48 ≤ c) && decide (c ≤ 57)) || c == 45 || c == 46 || letterB c || leftB c
theorem host_eq (c : Int) : prep_Host_1.f c = some (hostOk c) := by
 have hl : (ranges_Letters.f).bind (fun t => (ranges_In.f t c).bind fun u => if u = true then some true else (ranges_RightLeft.f).bind fun t => (ranges_In.f t c).bind fun u => some u) = some (letterB c || leftB c) := by
  show (if letterB c = true then some true else some (leftB c)) = _
  cases letterB c <;> rfl
 unfold prep_Host_1.f hostOk
 simp only [hl]
 have e1 : ∀ n : Int, ¬ c = n → (c == n) = false := fun n h => beq_eq_false_iff_ne.2 h
 by_cases h1 : c ≥ 48 <;> by_cases h2 : c ≤ 57 <;> by_cases h3 : c = 45 <;> by_cases h4 : c = 46 <;> simp [*, e1]
def prep_Host.f (a0 : ByteArray) : Option (ByteArray × Int) := if a0.size ≤ 1000000000 then some (ofP smallL hostOk a0) else none
set_option maxHeartbeats 4000000 in
set_option maxRecDepth 100000 in
theorem prep_Host.calls (a0 : ByteArray) (r1 : ByteArray) (r2 : Int) (w : World) (h : prep_Host.f a0 = some (r1, r2)) (hT : Tabs w) :
  Calls Tryz.prog 62 #[.string a0] w fun e w' => e = .returned (.tuple #[.string r1, .int .i64 r2]) ∧ Below w.heap.size w w' := by
 unfold prep_Host.f at h
 split at h
 ·rename_i hs
  have he := Option.some.inj h
  have h1 : IsFn Tryz.prog 66 := ⟨⟨_, Tryz.func66, zz34, rfl⟩⟩
  have h2 : IsFn Tryz.prog 83 := ⟨⟨_, Tryz.func83, zz34, rfl⟩⟩
  have hlen : ((runesI a0).flatMap smallL).length ≤ 1000000000000 := by
   have := flat_len smallL smallL_len (runesI a0)
   have := runesI_len a0
   omega
  have H := Aside0.mk (prep_of.hof a0 66 83 #[] smallL hostOk w hs hT h1 h2 hlen (fun x W _ => prep_small.calls 1 x _ W (small_eq x)) (fun x W _ => prep_Host_1.calls x _ W (host_eq x)))
  rw [he] at H
  clear he h hT hs h1 h2 hlen
  go_enter Tryz.func62, Tryz.ntmps62
  go_wp2_with (go_at_call 65; (with_reducible refine H.out.mono ?_); rintro e w1 ⟨rfl, hb⟩; have HB := Aside0.mk hb; clear hb H)
  go_ret2
  exact ⟨rfl, HB.out⟩
 cases h
def stringslite_HasSuffix.f (a0 : ByteArray) (a1 : ByteArray) : Option (Bool) := if (a0.size : Int) ≥ (a1.size : Int) then (if 0 ≤ (wrap64 ((a0.size : Int) - (a1.size : Int))) then (if (wrap64 ((a0.size : Int) - (a1.size : Int))) ≤ (a0.size : Int) then (some ((a0.extract ((wrap64 ((a0.size : Int) - (a1.size : Int))) : Int).toNat a0.size).toList == a1.toList)) else (none)) else (none)) else (some false)
set_option maxHeartbeats 8000000 in
set_option maxRecDepth 100000 in
theorem stringslite_HasSuffix.calls (a0 : ByteArray) (a1 : ByteArray) (r : Bool) (w : World) (h : stringslite_HasSuffix.f a0 a1 = some r) :
  Calls Tryz.prog 109 #[.string a0, .string a1] w fun e w' => e = .returned (.bool r) ∧ Drawn0 w w' := by
 have H : (if (a0.size : Int) ≥ (a1.size : Int) then (if 0 ≤ (wrap64 ((a0.size : Int) - (a1.size : Int))) then (if (wrap64 ((a0.size : Int) - (a1.size : Int))) ≤ (a0.size : Int) then (some ((a0.extract ((wrap64 ((a0.size : Int) - (a1.size : Int))) : Int).toNat a0.size).toList == a1.toList)) else (none)) else (none)) else (some false)) = some r := h
 clear h
 by_cases c3 : (a0.size : Int) ≥ (a1.size : Int)
 ·rw [if_pos c3] at H
  have c3b0 := decide_eq_true c3
  have c3b1 : decide (a1.size ≤ a0.size) = true := decide_eq_true (Int.ofNat_le.mp c3)
  clear c3
  obtain ⟨ji4, hji4⟩ : ∃ j_ : Int, (wrap64 ((a0.size : Int) - (a1.size : Int))) = j_ := ⟨_, rfl⟩
  replace H : (if 0 ≤ (ji4) then (if (ji4) ≤ (a0.size : Int) then (some ((a0.extract ((ji4) : Int).toNat a0.size).toList == a1.toList)) else (none)) else (none)) = some r := by first | (rw [hji4] at H; exact H) | (simp only [hji4] at H ⊢; exact H)
  have hji4w : (IntKind.i64.wrap ((a0.size : Int) - (a1.size : Int))) = ji4 := (i64_w _).trans hji4
  by_cases c5 : 0 ≤ (ji4)
  ·rw [if_pos c5] at H
   have c5b0 := eq_true c5
   have c5b1 : decide (0 ≤ (ji4)) = true := decide_eq_true c5
   clear c5
   by_cases c6 : (ji4) ≤ (a0.size : Int)
   ·rw [if_pos c6] at H
    have c6b0 := eq_true c6
    have c6b1 : decide ((ji4) ≤ (a0.size : Int)) = true := decide_eq_true c6
    clear c6
    obtain rfl := Option.some.inj H
    go_enter Tryz.func109, Tryz.ntmps109
    go_wp2
    go_ret
    exact ⟨by first | rfl | (simp; done) | (simp only [← hji4] <;> (first | rfl | simp)) | exact congrArg Value.bool (nemp _) | exact congrArg Value.bool (emp _) | (simp [*]; done), zz17⟩
   rw [if_neg c6] at H
   exact absurd H (by simp)
  rw [if_neg c5] at H
  exact absurd H (by simp)
 rw [if_neg c3] at H
 have c3b0 := decide_eq_false c3
 have c3b1 : decide (a1.size ≤ a0.size) = false := decide_eq_false (fun h => c3 (Int.ofNat_le.mpr h))
 clear c3
 obtain rfl := Option.some.inj H
 go_enter Tryz.func109, Tryz.ntmps109
 go_wp2
 go_ret
 exact ⟨zz1, zz17⟩
def stringslite_TrimSuffix.f (a0 : ByteArray) (a1 : ByteArray) : Option (ByteArray) := (stringslite_HasSuffix.f a0 a1).bind fun t217 => (if t217 = true then (if 0 ≤ (wrap64 ((a0.size : Int) - (a1.size : Int))) then (if (wrap64 ((a0.size : Int) - (a1.size : Int))) ≤ (a0.size : Int) then (some (a0.extract 0 ((wrap64 ((a0.size : Int) - (a1.size : Int))) : Int).toNat)) else (none)) else (none)) else (some a0))
set_option maxHeartbeats 8000000 in
set_option maxRecDepth 100000 in
theorem stringslite_TrimSuffix.calls (a0 : ByteArray) (a1 : ByteArray) (r : ByteArray) (w : World) (h : stringslite_TrimSuffix.f a0 a1 = some r) :
  Calls Tryz.prog 87 #[.string a0, .string a1] w fun e w' => e = .returned (.string r) ∧ Drawn0 w w' := by
 have H : ((stringslite_HasSuffix.f a0 a1).bind fun t217 => (if t217 = true then (if 0 ≤ (wrap64 ((a0.size : Int) - (a1.size : Int))) then (if (wrap64 ((a0.size : Int) - (a1.size : Int))) ≤ (a0.size : Int) then (some (a0.extract 0 ((wrap64 ((a0.size : Int) - (a1.size : Int))) : Int).toNat)) else (none)) else (none)) else (some a0))) = some r := h
 clear h
 replace H := Option.bind_eq_some_iff.mp H
 obtain ⟨t217, A30, H⟩ := H
 try dsimp only at H
 have A3 := Aside0.mk A30
 clear A30
 by_cases c4 : t217 = true
 ·subst c4
  have H1 : (if 0 ≤ (wrap64 ((a0.size : Int) - (a1.size : Int))) then (if (wrap64 ((a0.size : Int) - (a1.size : Int))) ≤ (a0.size : Int) then (some (a0.extract 0 ((wrap64 ((a0.size : Int) - (a1.size : Int))) : Int).toNat)) else (none)) else (none)) = some r := by rw [if_pos rfl] at H; exact H
  clear H
  have H := H1
  clear H1
  obtain ⟨ji5, hji5⟩ : ∃ j_ : Int, (wrap64 ((a0.size : Int) - (a1.size : Int))) = j_ := ⟨_, rfl⟩
  replace H : (if 0 ≤ (ji5) then (if (ji5) ≤ (a0.size : Int) then (some (a0.extract 0 ((ji5) : Int).toNat)) else (none)) else (none)) = some r := by first | (rw [hji5] at H; exact H) | (simp only [hji5] at H ⊢; exact H)
  (try rw [hji5] at A3)
  have hji5w : (IntKind.i64.wrap ((a0.size : Int) - (a1.size : Int))) = ji5 := (i64_w _).trans hji5
  by_cases c6 : 0 ≤ (ji5)
  ·rw [if_pos c6] at H
   have c6b0 := eq_true c6
   have c6b1 : decide (0 ≤ (ji5)) = true := decide_eq_true c6
   clear c6
   by_cases c7 : (ji5) ≤ (a0.size : Int)
   ·rw [if_pos c7] at H
    have c7b0 := eq_true c7
    have c7b1 : decide ((ji5) ≤ (a0.size : Int)) = true := decide_eq_true c7
    clear c7
    obtain rfl := Option.some.inj H
    go_enter Tryz.func87, Tryz.ntmps87
    go_wp2_with (first | ((with_reducible refine gc 109 ?_); refine gL (some 7) Tryz.func109 #[.string a0, .string a1] ?_; (with_reducible refine (stringslite_HasSuffix.calls a0 a1 true _ A3.out).mono ?_); rintro e w' ⟨rfl, ⟨nd, rfl⟩⟩; refine ⟨_, rfl, ?_⟩))
    go_ret
    exact ⟨by first | rfl | (simp; done) | (simp only [← hji5] <;> (first | rfl | simp)) | exact congrArg Value.bool (nemp _) | exact congrArg Value.bool (emp _) | (simp [*]; done), zz17⟩
   rw [if_neg c7] at H
   exact absurd H (by simp)
  rw [if_neg c6] at H
  exact absurd H (by simp)
 replace c4 := Bool.eq_false_iff.mpr c4
 subst c4
 have H1 : (some a0) = some r := by rw [if_neg (show ¬ (false = true) by decide)] at H; exact H
 clear H
 have H := H1
 clear H1
 obtain rfl := Option.some.inj H
 go_enter Tryz.func87, Tryz.ntmps87
 go_wp2_with (first | ((with_reducible refine gc 109 ?_); refine gL (some 7) Tryz.func109 #[.string a0, .string a1] ?_; (with_reducible refine (stringslite_HasSuffix.calls a0 a1 false _ A3.out).mono ?_); rintro e w' ⟨rfl, ⟨nd, rfl⟩⟩; refine ⟨_, rfl, ?_⟩))
 go_ret
 exact ⟨zz1, zz17⟩
def strings_TrimSuffix.f (a0 : ByteArray) (a1 : ByteArray) : Option (ByteArray) := (stringslite_TrimSuffix.f a0 a1).bind fun t218 => (some t218)
set_option maxHeartbeats 8000000 in
set_option maxRecDepth 100000 in
theorem strings_TrimSuffix.calls (a0 : ByteArray) (a1 : ByteArray) (r : ByteArray) (w : World) (h : strings_TrimSuffix.f a0 a1 = some r) :
  Calls Tryz.prog 63 #[.string a0, .string a1] w fun e w' => e = .returned (.string r) ∧ Drawn0 w w' := by
 have H : ((stringslite_TrimSuffix.f a0 a1).bind fun t218 => (some t218)) = some r := h
 clear h
 replace H := Option.bind_eq_some_iff.mp H
 obtain ⟨t218, A30, H⟩ := H
 try dsimp only at H
 have A3 := Aside0.mk A30
 clear A30
 obtain rfl := Option.some.inj H
 go_enter Tryz.func63, Tryz.ntmps63
 go_wp2_with (first | ((with_reducible refine gc 87 ?_); refine gL (some 7) Tryz.func87 #[.string a0, .string a1] ?_; (with_reducible refine (stringslite_TrimSuffix.calls a0 a1 t218 _ A3.out).mono ?_); rintro e w' ⟨rfl, ⟨nd, rfl⟩⟩; refine ⟨_, rfl, ?_⟩))
 go_ret
 exact ⟨zz1, zz17⟩
theorem R_alloc_strings (w : World) (e : TypeId) (xs : List ByteArray) (h : xs.length ≤ maxLen) :
  Kd.R Kd.string e (w.alloc (.cells (xs.map Value.string).toArray e)) w.heap.size (fun _ => True) (.slice (some ⟨w.heap.size, 0, none⟩) xs.length xs.length) xs := by
 refine Kd.R_of_own (h1 := fun _ => rfl) ⟨by simp [encs], .inr ⟨w.heap.size, xs.length, _, rfl, Nat.le_refl _, heap_alloc_new w _, Nat.le_refl _, h, by simp, ?_⟩⟩ (fun _ _ => trivial)
 rw [Nat.mul_one, List.take_of_length_le (by simp)]
 rfl
def strings_Split.f (a0 a1 : ByteArray) : Option (List ByteArray) :=
 if a0.size < 4294967281 ∧ 1 ≤ a1.size then some (Lib.splitB a1 0 (Lib.countB a0 a1) a0) else none
set_option maxHeartbeats 4000000 in
set_option maxRecDepth 100000 in
theorem strings_Split.calls (a0 a1 : ByteArray) (r : List ByteArray) (w : World) (h : strings_Split.f a0 a1 = some r) (hT : Tabs w) :
  Calls Tryz.prog 88 #[.string a0, .string a1] w fun e w' => ∃ v0_ : Value, e = .returned (v0_) ∧ Kd.R Kd.string 9 w' w.heap.size (fun _ => True) v0_ r ∧ Below w.heap.size w w' := by
 unfold strings_Split.f at h
 split at h
 ·rename_i hs
  obtain ⟨m, hm⟩ := hT.2
  obtain rfl := Option.some.inj h
  refine (Tryz.strings_Split a0 a1 m w hs.1 hm hs.2).mono ?_
  rintro e w' ⟨rfl, rfl⟩
  refine ⟨_, rfl, ?_, below_alloc (Below.refl w.heap.size w) _⟩
  have hl : (Lib.splitB a1 0 (Lib.countB a0 a1) a0).length = Lib.countB a0 a1 + 1 := splitB_all a1 hs.2 0 _ a0 rfl
  rw [← hl]
  exact R_alloc_strings w 9 _ (by rw [hl]; have := countB_le a1 hs.2 a0.size a0 (Nat.le_refl _); have := hs.1; unfold maxLen; omega)
 cases h
def stringslite_HasPrefix.f (a0 : ByteArray) (a1 : ByteArray) : Option (Bool) := if (a0.size : Int) ≥ (a1.size : Int) then (if 0 ≤ (a1.size : Int) then (if (a1.size : Int) ≤ (a0.size : Int) then (some ((a0.extract 0 ((a1.size : Int) : Int).toNat).toList == a1.toList)) else (none)) else (none)) else (some false)
theorem lf11 {P : Prop} (h : P := by
 go_enter Tryz.func111, Tryz.ntmps111
 go_wp2
 go_ret; exact ⟨zz1, zz17⟩) : P := h
set_option maxHeartbeats 8000000 in
set_option maxRecDepth 100000 in
theorem stringslite_HasPrefix.calls (a0 : ByteArray) (a1 : ByteArray) (r : Bool) (w : World) (h : stringslite_HasPrefix.f a0 a1 = some r) :
  Calls Tryz.prog 111 #[.string a0, .string a1] w fun e w' => e = .returned (.bool r) ∧ Drawn0 w w' := by
 have H : (if (a0.size : Int) ≥ (a1.size : Int) then (if 0 ≤ (a1.size : Int) then (if (a1.size : Int) ≤ (a0.size : Int) then (some ((a0.extract 0 ((a1.size : Int) : Int).toNat).toList == a1.toList)) else (none)) else (none)) else (some false)) = some r := h
 clear h
 by_cases c3 : (a0.size : Int) ≥ (a1.size : Int)
 ·rw [if_pos c3] at H
  have c3b0 := decide_eq_true c3
  have c3b1 : decide (a1.size ≤ a0.size) = true := decide_eq_true (Int.ofNat_le.mp c3)
  clear c3
  by_cases c4 : 0 ≤ (a1.size : Int)
  ·rw [if_pos c4] at H
   have c4b0 := eq_true c4
   have c4b1 : decide (0 ≤ (a1.size : Int)) = true := decide_eq_true c4
   clear c4
   by_cases c5 : (a1.size : Int) ≤ (a0.size : Int)
   ·rw [if_pos c5] at H
    have c5b0 := eq_true c5
    have c5b1 : decide ((a1.size : Int) ≤ (a0.size : Int)) = true := decide_eq_true c5
    clear c5
    obtain rfl := Option.some.inj H
    exact lf11
   rw [if_neg c5] at H
   exact absurd H (by simp)
  rw [if_neg c4] at H
  exact absurd H (by simp)
 rw [if_neg c3] at H
 have c3b0 := decide_eq_false c3
 have c3b1 : decide (a1.size ≤ a0.size) = false := decide_eq_false (fun h => c3 (Int.ofNat_le.mpr h))
 clear c3
 obtain rfl := Option.some.inj H
 exact lf11
def strings_HasPrefix.f (a0 : ByteArray) (a1 : ByteArray) : Option (Bool) := (stringslite_HasPrefix.f a0 a1).bind fun t219 => (some t219)
set_option maxHeartbeats 8000000 in
set_option maxRecDepth 100000 in
theorem strings_HasPrefix.calls (a0 : ByteArray) (a1 : ByteArray) (r : Bool) (w : World) (h : strings_HasPrefix.f a0 a1 = some r) :
  Calls Tryz.prog 89 #[.string a0, .string a1] w fun e w' => e = .returned (.bool r) ∧ Drawn0 w w' := by
 have H : ((stringslite_HasPrefix.f a0 a1).bind fun t219 => (some t219)) = some r := h
 clear h
 replace H := Option.bind_eq_some_iff.mp H
 obtain ⟨t219, A30, H⟩ := H
 try dsimp only at H
 have A3 := Aside0.mk A30
 clear A30
 obtain rfl := Option.some.inj H
 go_enter Tryz.func89, Tryz.ntmps89
 go_wp2_with (first | ((with_reducible refine gc 111 ?_); refine gL (some 7) Tryz.func111 #[.string a0, .string a1] ?_; (with_reducible refine (stringslite_HasPrefix.calls a0 a1 t219 _ A3.out).mono ?_); rintro e w' ⟨rfl, ⟨nd, rfl⟩⟩; refine ⟨_, rfl, ?_⟩))
 go_ret
 exact ⟨zz1, zz17⟩
def strings_HasSuffix.f (a0 : ByteArray) (a1 : ByteArray) : Option (Bool) := (stringslite_HasSuffix.f a0 a1).bind fun t220 => (some t220)
set_option maxHeartbeats 8000000 in
set_option maxRecDepth 100000 in
theorem strings_HasSuffix.calls (a0 : ByteArray) (a1 : ByteArray) (r : Bool) (w : World) (h : strings_HasSuffix.f a0 a1 = some r) :
  Calls Tryz.prog 90 #[.string a0, .string a1] w fun e w' => e = .returned (.bool r) ∧ Drawn0 w w' := by
 have H : ((stringslite_HasSuffix.f a0 a1).bind fun t220 => (some t220)) = some r := h
 clear h
 replace H := Option.bind_eq_some_iff.mp H
 obtain ⟨t220, A30, H⟩ := H
 try dsimp only at H
 have A3 := Aside0.mk A30
 clear A30
 obtain rfl := Option.some.inj H
 go_enter Tryz.func90, Tryz.ntmps90
 go_wp2_with (first | ((with_reducible refine gc 109 ?_); refine gL (some 7) Tryz.func109 #[.string a0, .string a1] ?_; (with_reducible refine (stringslite_HasSuffix.calls a0 a1 t220 _ A3.out).mono ?_); rintro e w' ⟨rfl, ⟨nd, rfl⟩⟩; refine ⟨_, rfl, ?_⟩))
 go_ret
 exact ⟨zz1, zz17⟩
def jid_right.l0 : Nat → List ByteArray → Int → Int → Option (Bool)
 | 0, _, _, _ => none
 | k + 1, x6, x7, x8 => if x8 < x7 then (if 0 ≤ x8 then (if x8 < (x6.length : Int) then (if (rdOf ByteArray.empty x6 x8).toList = ([] : List UInt8) then (some false) else ((strings_HasPrefix.f (rdOf ByteArray.empty x6 x8) (⟨#[45]⟩ : ByteArray)).bind fun t225 => (if t225 = true then (some false) else ((strings_HasSuffix.f (rdOf ByteArray.empty x6 x8) (⟨#[45]⟩ : ByteArray)).bind fun t226 => (if t226 = true then (some false) else (jid_right.l0 k x6 x7 (wrap64 (x8 + 1)))))))) else (none)) else (none)) else (some true)
def jid_right.f (k : Nat) (a0 : ByteArray) : Option (Bool) := (strings_Split.f a0 (⟨#[46]⟩ : ByteArray)).bind fun t221 => (jid_right.l0 k t221 (t221.length : Int) 0)
theorem jid_right.mono_l : ∀ k, (∀ y0 y1 y2, LeO (jid_right.l0 k y0 y1 y2) (jid_right.l0 (k + 1) y0 y1 y2))
 | 0 => fun _ _ _ r h => by simp [jid_right.l0] at h
 | k + 1 => by
  have ih0 := jid_right.mono_l k
  intro y0 y1 y2
  unfold jid_right.l0
  repeat' first
  | (with_reducible exact ih0 _ _ _)
  | (with_reducible exact LeO.refl _)
  | (with_reducible exact LeO.none _)
  | (with_reducible refine LeO.ite ?_ ?_)
  | (with_reducible refine LeO.bind ?_ (fun _ => ?_))
  | exact ih0 _ _ _
  | exact LeO.none _
  | refine LeO.ite ?_ ?_
  | refine LeO.bind ?_ (fun _ => ?_)
theorem jid_right.mono : ∀ a0 k, LeO (jid_right.f k a0) (jid_right.f (k + 1) a0) := by
 intro a0 k
 have ih0 := jid_right.mono_l k
 unfold jid_right.f
 repeat' first
   | (with_reducible exact ih0 _ _ _)
   | (with_reducible exact LeO.refl _)
   | (with_reducible exact LeO.none _)
   | (with_reducible refine LeO.ite ?_ ?_)
   | (with_reducible refine LeO.bind ?_ (fun _ => ?_))
   | exact ih0 _ _ _
   | exact LeO.none _
   | refine LeO.ite ?_ ?_
   | refine LeO.bind ?_ (fun _ => ?_)
theorem lf12 {P : Prop} (h : P := by
 go_wp2_with (first | (go_at_call 89; (with_reducible refine (strings_HasPrefix.calls (rdOf ByteArray.empty t221 x8_1) (⟨#[45]⟩ : ByteArray) true _ A9.out).mono ?_); rintro e w' ⟨rfl, ⟨nd, rfl⟩⟩) | (go_at_call 89; (with_reducible refine (strings_HasPrefix.calls (rdOf ByteArray.empty t221 x8_1) (⟨#[45]⟩ : ByteArray) false _ A9.out).mono ?_); rintro e w' ⟨rfl, ⟨nd, rfl⟩⟩) | (go_at_call 90; (with_reducible refine (strings_HasSuffix.calls (rdOf ByteArray.empty t221 x8_1) (⟨#[45]⟩ : ByteArray) true _ A11.out).mono ?_); rintro e w' ⟨rfl, ⟨nd, rfl⟩⟩) | (go_at_call 90; (with_reducible refine (strings_HasSuffix.calls (rdOf ByteArray.empty t221 x8_1) (⟨#[45]⟩ : ByteArray) false _ A11.out).mono ?_); rintro e w' ⟨rfl, ⟨nd, rfl⟩⟩))
 first
  | (go_ret; exact ⟨zz4, zz0⟩)
  | (go_roundg k1; (case measure => have := HK1.out; omega); (case rel => exact ⟨(wrap64 (x8_1 + 1)), zz1, H', ⟨zz58⟩, ⟨zz12⟩, ⟨zz0⟩⟩))) : P := h
set_option maxHeartbeats 8000000 in
set_option maxRecDepth 100000 in
theorem jid_right.calls (k : Nat) (a0 : ByteArray) (r : Bool) (w : World) (h : jid_right.f k a0 = some r) (hT : Tabs w) :
  Calls Tryz.prog 64 #[.string a0] w fun e w' => e = .returned (.bool r) ∧ Below w.heap.size w w' := by
 have HT := Aside0.mk hT
 clear hT
 have HB := Aside0.mk (Below.refl w.heap.size w)
 have H : ((strings_Split.f a0 (⟨#[46]⟩ : ByteArray)).bind fun t221 => (jid_right.l0 k t221 (t221.length : Int) 0)) = some r := h
 clear h
 replace H := Option.bind_eq_some_iff.mp H
 obtain ⟨t221, A20, H⟩ := H
 try dsimp only at H
 have A2 := Aside0.mk A20
 clear A20
 have H' := Aside0.mk H
 clear H
 go_enter Tryz.func64, Tryz.ntmps64
 go_wp2_with (first | ((with_reducible refine gc 88 ?_); refine gL (some 6) Tryz.func88 #[.string a0, .string (⟨#[46]⟩ : ByteArray)] ?_; (with_reducible refine (strings_Split.calls a0 (⟨#[46]⟩ : ByteArray) t221 _ A2.out (tabs_b HT.out zz0)).mono ?_); rintro e w3 ⟨v222, rfl, ho0, hb⟩; refine ⟨_, rfl, ?_⟩; have n_ := as2 (Kd.R_lower ho0 (below_size zz0)) (below_step zz0 hb); clear HB; obtain ⟨HO223, HB⟩ := n_; (try clear hb ho0); obtain ⟨Ao4, co4, eo4⟩ := Kd.R_slice HO223.out; subst eo4))
 go_loopg [8] k (fun kq v8 w' => ∃ (x8_1 : Int), v8 = .int .i64 x8_1 ∧ Aside0 (jid_right.l0 kq t221 (t221.length : Int) x8_1 = some r) ∧ Aside0 (kq ≤ k) ∧ Aside0 (Kd.R Kd.string 9 w' w.heap.size (fun _ => True) (.slice Ao4 t221.length co4) t221) ∧ Aside0 (Below w.heap.size w w'))
 case atStart => exact ⟨(0), zz1, H', ⟨Nat.le_refl _⟩, ⟨by (with_reducible repeat (first | apply Kd.R_alloc | apply Kd.R_drewN | apply Kd.R_drew)); exact HO223.out⟩, ⟨zz0⟩⟩
 case round =>
  clear H'
  try clear p2
  obtain ⟨x8_1, rfl, HA, HK1, HO_6, HB⟩ := hrel
  cases gk with
  | zero => exact absurd HA.out (by simp [jid_right.l0])
  | succ k1 =>
   have H := HA.out
   clear HA
   simp only [jid_right.l0] at H
   by_cases c5 : x8_1 < (t221.length : Int)
   ·rw [if_pos c5] at H
    have c5b0 := decide_eq_true c5
    clear c5
    by_cases c6 : 0 ≤ x8_1
    ·rw [if_pos c6] at H
     have c6b0 := decide_eq_true c6
     clear c6
     by_cases c7 : x8_1 < (t221.length : Int)
     ·rw [if_pos c7] at H
      have c7b0 := decide_eq_true c7
      clear c7
      by_cases c8 : (rdOf ByteArray.empty t221 x8_1).toList = ([] : List UInt8)
      ·rw [if_pos c8] at H
       obtain ⟨c8b0, c8b1⟩ := eqT c8
       clear c8
       obtain rfl := Option.some.inj H
       have p224 : 0 ≤ (x8_1 : Int) := of_decide_eq_true zz6
       have q224 : x8_1 < (t221.length : Int) := of_decide_eq_true zz6
       obtain ⟨ad224, e224, hx224_0⟩ := Kd.at_string (Kd.R_reads' HO_6.out).2.2 x8_1 p224 q224
       cases e224
       replace p224 := eq_true p224
       replace q224 := eq_true q224
       exact lf12
      rw [if_neg c8] at H
      obtain ⟨c8b0, c8b1⟩ := eqF c8
      replace H := Option.bind_eq_some_iff.mp H
      obtain ⟨t225, A90, H⟩ := H
      try dsimp only at H
      have A9 := Aside0.mk A90
      clear A90
      by_cases c10 : t225 = true
      ·subst c10
       have H1 : (some false) = some r := by rw [if_pos rfl] at H; exact H
       clear H
       have H := H1
       clear H1
       obtain rfl := Option.some.inj H
       have p224 : 0 ≤ (x8_1 : Int) := of_decide_eq_true zz6
       have q224 : x8_1 < (t221.length : Int) := of_decide_eq_true zz6
       obtain ⟨ad224, e224, hx224_0⟩ := Kd.at_string (Kd.R_reads' HO_6.out).2.2 x8_1 p224 q224
       cases e224
       replace p224 := eq_true p224
       replace q224 := eq_true q224
       exact lf12
      replace c10 := Bool.eq_false_iff.mpr c10
      subst c10
      have H1 : ((strings_HasSuffix.f (rdOf ByteArray.empty t221 x8_1) (⟨#[45]⟩ : ByteArray)).bind fun t226 => (if t226 = true then (some false) else (jid_right.l0 k1 t221 (t221.length : Int) (wrap64 (x8_1 + 1))))) = some r := by rw [if_neg (show ¬ (false = true) by decide)] at H; exact H
      clear H
      have H := H1
      clear H1
      replace H := Option.bind_eq_some_iff.mp H
      obtain ⟨t226, A110, H⟩ := H
      try dsimp only at H
      have A11 := Aside0.mk A110
      clear A110
      by_cases c12 : t226 = true
      ·subst c12
       have H1 : (some false) = some r := by rw [if_pos rfl] at H; exact H
       clear H
       have H := H1
       clear H1
       obtain rfl := Option.some.inj H
       have p224 : 0 ≤ (x8_1 : Int) := of_decide_eq_true zz6
       have q224 : x8_1 < (t221.length : Int) := of_decide_eq_true zz6
       obtain ⟨ad224, e224, hx224_0⟩ := Kd.at_string (Kd.R_reads' HO_6.out).2.2 x8_1 p224 q224
       cases e224
       replace p224 := eq_true p224
       replace q224 := eq_true q224
       exact lf12
      replace c12 := Bool.eq_false_iff.mpr c12
      subst c12
      have H1 : (jid_right.l0 k1 t221 (t221.length : Int) (wrap64 (x8_1 + 1))) = some r := by rw [if_neg (show ¬ (false = true) by decide)] at H; exact H
      clear H
      have H := H1
      clear H1
      have H' := Aside0.mk H
      clear H
      have p224 : 0 ≤ (x8_1 : Int) := of_decide_eq_true zz6
      have q224 : x8_1 < (t221.length : Int) := of_decide_eq_true zz6
      obtain ⟨ad224, e224, hx224_0⟩ := Kd.at_string (Kd.R_reads' HO_6.out).2.2 x8_1 p224 q224
      cases e224
      replace p224 := eq_true p224
      replace q224 := eq_true q224
      exact lf12
     rw [if_neg c7] at H
     exact absurd H (by simp)
    rw [if_neg c6] at H
    exact absurd H (by simp)
   rw [if_neg c5] at H
   have c5b0 := decide_eq_false c5
   clear c5
   obtain rfl := Option.some.inj H
   exact lf12
def jid_Domain.f (k : Nat) (a0 : ByteArray) : Option (ByteArray × Int) := (prep_Host.f a0).bind fun bt227 => (if bt227.2 = 0 then ((strings_TrimSuffix.f bt227.1 (⟨#[46]⟩ : ByteArray)).bind fun t229 => (if (t229.size : Int) > 100 then (some ((⟨#[]⟩ : ByteArray), 14)) else ((jid_right.f k t229).bind fun t230 => (if t230 = true then (some (t229, 0)) else (some ((⟨#[]⟩ : ByteArray), 14)))))) else (some ((⟨#[]⟩ : ByteArray), bt227.2)))
theorem jid_Domain.mono : ∀ a0 k, LeO (jid_Domain.f k a0) (jid_Domain.f (k + 1) a0) := by
 intro a0 k
 unfold jid_Domain.f
 repeat' first
   | (with_reducible exact jid_right.mono _ _)
   | (with_reducible exact LeO.refl _)
   | (with_reducible exact LeO.none _)
   | (with_reducible refine LeO.ite ?_ ?_)
   | (with_reducible refine LeO.bind ?_ (fun _ => ?_))
   | exact jid_right.mono _ _
   | exact LeO.none _
   | refine LeO.ite ?_ ?_
   | refine LeO.bind ?_ (fun _ => ?_)
theorem lf13 {P : Prop} (h : P := by
 go_enter Tryz.func47, Tryz.ntmps47
 go_wp2_with (first | ((with_reducible refine gc 62 ?_); refine gL (some 7) Tryz.func62 #[.string a0] ?_; (with_reducible refine (prep_Host.calls a0 t227 t228 _ A2.out (tabs_b HT.out zz0)).mono ?_); rintro e v0_ ⟨rfl, hb⟩; refine ⟨_, rfl, ?_⟩; replace HB := Aside0.mk (below_step zz0 hb); (try clear hb)) | ((with_reducible refine gc 63 ?_); refine gL (some 14) Tryz.func63 #[.string t227, .string (⟨#[46]⟩ : ByteArray)] ?_; (with_reducible refine (strings_TrimSuffix.calls t227 (⟨#[46]⟩ : ByteArray) t229 _ A4.out).mono ?_); rintro e w' ⟨rfl, ⟨nd, rfl⟩⟩; refine ⟨_, rfl, ?_⟩) | (go_at_call 64; (with_reducible refine (jid_right.calls k t229 true _ A7.out (tabs_b HT.out zz0)).mono ?_); rintro e v1_ ⟨rfl, hb⟩; replace HB := Aside0.mk (below_step zz0 hb); (try clear hb)) | (go_at_call 64; (with_reducible refine (jid_right.calls k t229 false _ A7.out (tabs_b HT.out zz0)).mono ?_); rintro e v1_ ⟨rfl, hb⟩; replace HB := Aside0.mk (below_step zz0 hb); (try clear hb)))
 go_ret2; exact ⟨zz4, zz0⟩) : P := h
set_option maxHeartbeats 8000000 in
set_option maxRecDepth 100000 in
theorem jid_Domain.calls (k : Nat) (a0 : ByteArray) (r1 : ByteArray) (r2 : Int) (w : World) (h : jid_Domain.f k a0 = some (r1, r2)) (hT : Tabs w) :
  Calls Tryz.prog 47 #[.string a0] w fun e w' => e = .returned (.tuple #[.string r1, .int .i64 r2]) ∧ Below w.heap.size w w' := by
 have HT := Aside0.mk hT
 clear hT
 have HB := Aside0.mk (Below.refl w.heap.size w)
 have H : ((prep_Host.f a0).bind fun bt227 => (if bt227.2 = 0 then ((strings_TrimSuffix.f bt227.1 (⟨#[46]⟩ : ByteArray)).bind fun t229 => (if (t229.size : Int) > 100 then (some ((⟨#[]⟩ : ByteArray), 14)) else ((jid_right.f k t229).bind fun t230 => (if t230 = true then (some (t229, 0)) else (some ((⟨#[]⟩ : ByteArray), 14)))))) else (some ((⟨#[]⟩ : ByteArray), bt227.2)))) = some (r1, r2) := h
 clear h
 replace H := Option.bind_eq_some_iff.mp H
 obtain ⟨⟨t227, t228⟩, A20, H⟩ := H
 try dsimp only at H
 have A2 := Aside0.mk A20
 clear A20
 by_cases c3 : t228 = 0
 ·rw [if_pos c3] at H
  obtain ⟨c3b0, c3b1⟩ := eqT c3
  clear c3
  replace H := Option.bind_eq_some_iff.mp H
  obtain ⟨t229, A40, H⟩ := H
  try dsimp only at H
  have A4 := Aside0.mk A40
  clear A40
  by_cases c5 : (t229.size : Int) > 100
  ·rw [if_pos c5] at H
   have c5b0 := decide_eq_true c5
   have c5b1 : decide (100 < t229.size) = true := decide_eq_true (by omega)
   clear c5
   simp only [Option.some.injEq, Prod.mk.injEq] at H
   obtain ⟨rfl, rfl⟩ := H
   exact lf13
  rw [if_neg c5] at H
  have c5b0 := decide_eq_false c5
  have c5b1 : decide (100 < t229.size) = false := decide_eq_false (by omega)
  clear c5
  replace H := Option.bind_eq_some_iff.mp H
  obtain ⟨t230, A70, H⟩ := H
  try dsimp only at H
  have A7 := Aside0.mk A70
  clear A70
  by_cases c8 : t230 = true
  ·subst c8
   have H1 : (some (t229, 0)) = some (r1, r2) := by rw [if_pos rfl] at H; exact H
   clear H
   have H := H1
   clear H1
   simp only [Option.some.injEq, Prod.mk.injEq] at H
   obtain ⟨rfl, rfl⟩ := H
   exact lf13
  replace c8 := Bool.eq_false_iff.mpr c8
  subst c8
  have H1 : (some ((⟨#[]⟩ : ByteArray), 14)) = some (r1, r2) := by rw [if_neg (show ¬ (false = true) by decide)] at H; exact H
  clear H
  have H := H1
  clear H1
  simp only [Option.some.injEq, Prod.mk.injEq] at H
  obtain ⟨rfl, rfl⟩ := H
  exact lf13
 rw [if_neg c3] at H
 obtain ⟨c3b0, c3b1⟩ := eqF c3
 simp only [Option.some.injEq, Prod.mk.injEq] at H
 obtain ⟨rfl, rfl⟩ := H
 exact lf13
def keptR (y : ByteArray × Int) (is : Bool) (most : Int) : ByteArray × Int :=
 if y.2 = 0 then (if is = true ∧ (y.1.size = 0 ∨ most < y.1.size) then (⟨#[]⟩, 14) else (y.1, 0)) else (⟨#[]⟩, y.2)
theorem isEmpty_size (y : ByteArray) : y.toList.isEmpty = decide (y.size = 0) := by
 rw [ByteArray.toList_eq]
 obtain ⟨⟨l⟩⟩ := y
 cases l <;> simp [ByteArray.size]
set_option maxHeartbeats 4000000 in
set_option maxRecDepth 100000 in
theorem jid_kept_string.hof (x : ByteArray) (is : Bool) (F : Nat) (most : Int) (y : ByteArray) (e : Int) (r1 : ByteArray) (r2 : Int) (w : World) (hF : IsFn Tryz.prog F) (hy : y.size ≤ 9223372036854775807) (hr : keptR (y, e) is most = (r1, r2))
  (hg : ∀ W, Below w.heap.size w W → Calls Tryz.prog F (#[.string x] ++ #[]) W fun q W' => q = .returned (.tuple #[.string y, .int .i64 e]) ∧ Below W.heap.size W W') :
  Calls Tryz.prog 48 #[.agg #[.string x, .bool is], .func (.func F) #[] #[], .int .i64 most] w fun q w' => q = .returned (.tuple #[.string r1, .int .i64 r2]) ∧ Below w.heap.size w w' := by
 have hu := Tryz.underlying75
 obtain ⟨w0, hw0⟩ : ∃ w0, w.alloc (.cells #[.string x, .bool is] 75) = w0 := ⟨_, rfl⟩
 have B0 := Aside0.mk (show Below w.heap.size w w0 by rw [← hw0]; exact below_alloc (Below.refl _ _) _)
 have HC1 := Aside0.mk (show ∀ W, Below w0.heap.size w0 W → W.cell? ⟨w.heap.size, 1, none⟩ = some (.bool is) from fun W hb => by rw [← hw0] at hb; exact box_cells 1 rfl hb)
 have HG := Aside0.mk (hg w0 B0.out)
 have HW0 := Aside0.mk hw0
 have HY := Aside0.mk hy
 have hE := isEmpty_size y
 unfold keptR at hr
 clear hg hw0 hy
 by_cases he : e = 0
 ·subst he
  rw [if_pos rfl] at hr
  cases is with
  | false =>
   rw [if_neg (by simp)] at hr
   cases hr
   clear hE
   go_enter Tryz.func48, Tryz.ntmps48
   go_wp2_with (first | ((with_reducible refine gate_value rfl ?_); refine goesV (some 14) rfl rfl rfl rfl hF #[.string x] zz39 ?_; rw [HW0.out]; (with_reducible refine HG.out.mono ?_); rintro q w1 ⟨rfl, hb⟩; refine ⟨_, rfl, ?_⟩; have HB := Aside0.mk hb; have hc1 := HC1.out _ hb; clear hb HG))
   go_ret2
   exact ⟨rfl, below2 B0.out HB.out⟩
  | true =>
   by_cases h0 : y.size = 0
   ·rw [if_pos ⟨rfl, .inl h0⟩] at hr
    cases hr
    have hE1 : y.toList.isEmpty = true := by rw [hE]; exact decide_eq_true h0
    clear hE h0
    go_enter Tryz.func48, Tryz.ntmps48
    go_wp2_with (first | ((with_reducible refine gate_value rfl ?_); refine goesV (some 14) rfl rfl rfl rfl hF #[.string x] zz39 ?_; rw [HW0.out]; (with_reducible refine HG.out.mono ?_); rintro q w1 ⟨rfl, hb⟩; refine ⟨_, rfl, ?_⟩; have HB := Aside0.mk hb; have hc1 := HC1.out _ hb; clear hb HG))
    all_goals (go_ret2; exact ⟨rfl, below2 B0.out HB.out⟩)
   have hE1 : y.toList.isEmpty = false := by rw [hE]; exact decide_eq_false h0
   have hE2 : ¬ y.toList = [] := by intro h; rw [h] at hE1; cases hE1
   by_cases hm : most < y.size
   ·rw [if_pos ⟨rfl, .inr hm⟩] at hr
    cases hr
    clear hE h0
    go_enter Tryz.func48, Tryz.ntmps48
    go_wp2_with (first | ((with_reducible refine gate_value rfl ?_); refine goesV (some 14) rfl rfl rfl rfl hF #[.string x] zz39 ?_; rw [HW0.out]; (with_reducible refine HG.out.mono ?_); rintro q w1 ⟨rfl, hb⟩; refine ⟨_, rfl, ?_⟩; have HB := Aside0.mk hb; have hc1 := HC1.out _ hb; clear hb HG))
    all_goals (go_ret2; exact ⟨rfl, below2 B0.out HB.out⟩)
   rw [if_neg (by simp [h0, hm])] at hr
   cases hr
   clear hE h0
   go_enter Tryz.func48, Tryz.ntmps48
   go_wp2_with (first | ((with_reducible refine gate_value rfl ?_); refine goesV (some 14) rfl rfl rfl rfl hF #[.string x] zz39 ?_; rw [HW0.out]; (with_reducible refine HG.out.mono ?_); rintro q w1 ⟨rfl, hb⟩; refine ⟨_, rfl, ?_⟩; have HB := Aside0.mk hb; have hc1 := HC1.out _ hb; clear hb HG))
   all_goals (go_ret2; exact ⟨rfl, below2 B0.out HB.out⟩)
 rw [if_neg he] at hr
 cases hr
 clear hE
 go_enter Tryz.func48, Tryz.ntmps48
 go_wp2_with (first | ((with_reducible refine gate_value rfl ?_); refine goesV (some 14) rfl rfl rfl rfl hF #[.string x] zz39 ?_; rw [HW0.out]; (with_reducible refine HG.out.mono ?_); rintro q w1 ⟨rfl, hb⟩; refine ⟨_, rfl, ?_⟩; have HB := Aside0.mk hb; have hc1 := HC1.out _ hb; clear hb HG))
 go_ret2
 exact ⟨rfl, below2 B0.out HB.out⟩
def jid_kept_string.f (x : ByteArray) (is : Bool) (F : Nat) (most : Int) : Option (ByteArray × Int) :=
 if F = 49 then (prep_Node.f x).bind fun y => if y.1.size ≤ 9223372036854775807 then some (keptR y is most) else none
 else if F = 50 then (prep_Resource.f x).bind fun y => if y.1.size ≤ 9223372036854775807 then some (keptR y is most) else none
 else none
theorem jid_kept_string.calls (x : ByteArray) (is : Bool) (F : Nat) (most : Int) (r1 : ByteArray) (r2 : Int) (w : World) (h : jid_kept_string.f x is F most = some (r1, r2)) (hT : Tabs w) :
  Calls Tryz.prog 48 #[.agg #[.string x, .bool is], .func (.func F) #[] #[], .int .i64 most] w fun e w' => e = .returned (.tuple #[.string r1, .int .i64 r2]) ∧ Below w.heap.size w w' := by
 unfold jid_kept_string.f at h
 split at h
 ·rename_i hF
  subst hF
  obtain ⟨⟨y, e⟩, h1, h2⟩ := Option.bind_eq_some_iff.1 h
  split at h2
  ·rename_i hy
   exact jid_kept_string.hof x is _ most y e r1 r2 w ⟨⟨_, Tryz.func49, zz34, rfl⟩⟩ hy (Option.some.inj h2) (fun W hb => prep_Node.calls x y e W h1 (tabs_b hT hb))
  cases h2
 split at h
 ·rename_i hF
  subst hF
  obtain ⟨⟨y, e⟩, h1, h2⟩ := Option.bind_eq_some_iff.1 h
  split at h2
  ·rename_i hy
   exact jid_kept_string.hof x is _ most y e r1 r2 w ⟨⟨_, Tryz.func50, zz34, rfl⟩⟩ hy (Option.some.inj h2) (fun W hb => prep_Resource.calls x y e W h1 (tabs_b hT hb))
  cases h2
 cases h
def jid_Parse.f (k : Nat) (a0 : ByteArray) : Option (ByteArray × ByteArray × ByteArray × Int) := (jid_parts.f a0).bind fun bt232 => ((jid_Domain.f k bt232.2.2.1).bind fun bt240 => (if bt240.2 = 0 then ((jid_kept_string.f bt232.1 bt232.2.1 49 64).bind fun bt242 => (if bt242.2 = 0 then ((jid_kept_string.f bt232.2.2.2.1 bt232.2.2.2.2 50 64).bind fun bt244 => (if bt244.2 = 0 then (some (bt242.1, bt240.1, bt244.1, 0)) else (some ((⟨#[]⟩ : ByteArray), (⟨#[]⟩ : ByteArray), (⟨#[]⟩ : ByteArray), bt244.2)))) else (some ((⟨#[]⟩ : ByteArray), (⟨#[]⟩ : ByteArray), (⟨#[]⟩ : ByteArray), bt242.2)))) else (some ((⟨#[]⟩ : ByteArray), (⟨#[]⟩ : ByteArray), (⟨#[]⟩ : ByteArray), bt240.2))))
theorem jid_Parse.mono : ∀ a0 k, LeO (jid_Parse.f k a0) (jid_Parse.f (k + 1) a0) := by
 intro a0 k
 unfold jid_Parse.f
 repeat' first
   | (with_reducible exact jid_Domain.mono _ _)
   | (with_reducible exact LeO.refl _)
   | (with_reducible exact LeO.none _)
   | (with_reducible refine LeO.ite ?_ ?_)
   | (with_reducible refine LeO.bind ?_ (fun _ => ?_))
   | exact jid_Domain.mono _ _
   | exact LeO.none _
   | refine LeO.ite ?_ ?_
   | refine LeO.bind ?_ (fun _ => ?_)
set_option maxRecDepth 100000 in
theorem lf14 {P : Prop} (h : P := by
 go_enter Tryz.func33, Tryz.ntmps33
 go_wp2_with (first | ((with_reducible refine gd 2 ?_); refine bz #[.string (⟨#[]⟩ : ByteArray), .string (⟨#[]⟩ : ByteArray), .string (⟨#[]⟩ : ByteArray)] 62 ?_; intro gb231 hg v0_ hbox hb; have n_ := as4 (below_step zz0 hb) hbox (gs w hg zz0) (gs w hg zz0); clear HB; obtain ⟨HB, BK231, GW231, GE231⟩ := n_; clear hb hbox hg) | ((with_reducible refine gc 46 ?_); refine gL (some 11) Tryz.func46 #[.string a0] ?_; (with_reducible refine (jid_parts.calls a0 t232 t233 t234 t235 t236 _ A2.out (tabs_b HT.out zz50)).mono ?_); rintro e v1_ ⟨rfl, hb⟩; refine ⟨_, rfl, ?_⟩; have n_ := as2 (blk_below zz49 hb) (below_step zz50 hb); clear BK231 HB; obtain ⟨BK231, HB⟩ := n_; (try clear hb)) | ((with_reducible refine gd 4 ?_); refine bz #[.string (⟨#[]⟩ : ByteArray), .bool false] 75 ?_; intro gb237 hg v2_ hbox hb; have n_ := as7 (blk_below zz49 hb) (below_step zz50 hb) hbox (gs w hg zz50) (gs w hg zz50) (nl hg zz49) (ng hg zz49); clear BK231 HB; obtain ⟨BK231, HB, BK237, GW237, GE237, NB231_237, NB237_231⟩ := n_; clear hb hbox hg) | ((with_reducible refine gd 6 ?_); refine bz #[.string (⟨#[]⟩ : ByteArray), .bool false] 75 ?_; intro gb238 hg v3_ hbox hb; have n_ := as10 (blk_below zz49 hb) (blk_below (by (with_reducible repeat (first | refine blk_drewN ?_ _ | refine blk_drew ?_ | refine blk_alloc ?_ _)); exact BK237.out) hb) (below_step zz63 hb) hbox (gs w hg zz63) (gs w hg zz63) (nl hg zz49) (ng hg zz49) (nl hg (by (with_reducible repeat (first | refine blk_drewN ?_ _ | refine blk_drew ?_ | refine blk_alloc ?_ _)); exact BK237.out)) (ng hg (by (with_reducible repeat (first | refine blk_drewN ?_ _ | refine blk_drew ?_ | refine blk_alloc ?_ _)); exact BK237.out)); clear BK231 BK237 HB; obtain ⟨BK231, BK237, HB, BK238, GW238, GE238, NB231_238, NB238_231, NB237_238, NB238_237⟩ := n_; clear hb hbox hg; have hn237_231 := NB237_231.out; have hn231_237 := NB231_237.out; have hn237_238 := NB237_238.out; have hn238_237 := NB238_237.out; obtain ⟨hcz237_0, hcz237_1⟩ := cz2 BK237.out; obtain ⟨hfz237_0, hfz237_1⟩ := fz2 BK237.out; have hn238_231 := NB238_231.out; have hn231_238 := NB231_238.out; obtain ⟨hcz238_0, hcz238_1⟩ := cz2 BK238.out; obtain ⟨hfz238_0, hfz238_1⟩ := fz2 BK238.out) | ((with_reducible refine gd 7 ?_); refine bz #[.string (⟨#[]⟩ : ByteArray), .string (⟨#[]⟩ : ByteArray), .string (⟨#[]⟩ : ByteArray)] 62 ?_; intro gb239 hg v4_ hbox hb; have n0_ := Aside0.mk (blk_below (g := gb231) (o := .cells #[.string (⟨#[]⟩ : ByteArray), .string (⟨#[]⟩ : ByteArray), .string (⟨#[]⟩ : ByteArray)] 62 (0, 0)) zz37 hb); have n1_ := Aside0.mk (blk_below (g := gb237) (o := .cells #[.string t232, .bool t233] 75 (0, 0)) zz32 hb); have n2_ := Aside0.mk (blk_below (g := gb238) (o := .cells #[.string t235, .bool t236] 75 (0, 0)) zz31 hb); have n3_ := Aside0.mk (below_step zz56 hb); have n4_ := Aside0.mk (hbox); have n5_ := Aside0.mk (gs w hg zz56); have n6_ := Aside0.mk (gs w hg zz56); have n7_ := Aside0.mk (nl (g := gb231) (o := .cells #[.string (⟨#[]⟩ : ByteArray), .string (⟨#[]⟩ : ByteArray), .string (⟨#[]⟩ : ByteArray)] 62 (0, 0)) hg zz37); have n8_ := Aside0.mk (ng (g := gb231) (o := .cells #[.string (⟨#[]⟩ : ByteArray), .string (⟨#[]⟩ : ByteArray), .string (⟨#[]⟩ : ByteArray)] 62 (0, 0)) hg zz37); have n9_ := Aside0.mk (nl (g := gb237) (o := .cells #[.string t232, .bool t233] 75 (0, 0)) hg zz32); have n10_ := Aside0.mk (ng (g := gb237) (o := .cells #[.string t232, .bool t233] 75 (0, 0)) hg zz32); have n11_ := Aside0.mk (nl (g := gb238) (o := .cells #[.string t235, .bool t236] 75 (0, 0)) hg zz31); have n12_ := Aside0.mk (ng (g := gb238) (o := .cells #[.string t235, .bool t236] 75 (0, 0)) hg zz31); clear BK231; clear BK237; clear BK238; clear HB; have BK231 := n0_; have BK237 := n1_; have BK238 := n2_; have HB := n3_; have BK239 := n4_; have GW239 := n5_; have GE239 := n6_; have NB231_239 := n7_; have NB239_231 := n8_; have NB237_239 := n9_; have NB239_237 := n10_; have NB238_239 := n11_; have NB239_238 := n12_; clear n0_ n1_ n2_ n3_ n4_ n5_ n6_ n7_ n8_ n9_ n10_ n11_ n12_; clear hb hbox hg; have hn239_231 := NB239_231.out; have hn231_239 := NB231_239.out; have hn239_237 := NB239_237.out; have hn237_239 := NB237_239.out; have hn239_238 := NB239_238.out; have hn238_239 := NB238_239.out; obtain ⟨hcz239_0, hcz239_1, hcz239_2⟩ := cz3 BK239.out; obtain ⟨hfz239_0, hfz239_1, hfz239_2⟩ := fz3 BK239.out) | ((with_reducible refine gc 47 ?_); refine gL (some 18) Tryz.func47 #[.string t234] ?_; (with_reducible refine (jid_Domain.calls k t234 t240 t241 _ A3.out (tabs_b HT.out zz27)).mono ?_); rintro e v5_ ⟨rfl, hb⟩; refine ⟨_, rfl, ?_⟩; have n_ := as5 (blk_below (g := gb231) (o := .cells #[.string (⟨#[]⟩ : ByteArray), .string (⟨#[]⟩ : ByteArray), .string (⟨#[]⟩ : ByteArray)] 62 (0, 0)) (by (with_reducible repeat (first | refine blk_drewN ?_ _ | refine blk_drew ?_ | refine blk_alloc ?_ _)); refine blk_far ?_ NB231_239.out _; (with_reducible repeat (first | refine blk_drewN ?_ _ | refine blk_drew ?_ | refine blk_alloc ?_ _)); refine blk_far ?_ NB231_239.out _; (with_reducible repeat (first | refine blk_drewN ?_ _ | refine blk_drew ?_ | refine blk_alloc ?_ _)); refine blk_far ?_ NB231_239.out _; (with_reducible repeat (first | refine blk_drewN ?_ _ | refine blk_drew ?_ | refine blk_alloc ?_ _)); exact BK231.out) hb) (blk_below (g := gb237) (o := .cells #[.string t232, .bool t233] 75 (0, 0)) (by (with_reducible repeat (first | refine blk_drewN ?_ _ | refine blk_drew ?_ | refine blk_alloc ?_ _)); refine blk_far ?_ NB237_239.out _; (with_reducible repeat (first | refine blk_drewN ?_ _ | refine blk_drew ?_ | refine blk_alloc ?_ _)); refine blk_far ?_ NB237_239.out _; (with_reducible repeat (first | refine blk_drewN ?_ _ | refine blk_drew ?_ | refine blk_alloc ?_ _)); refine blk_far ?_ NB237_239.out _; (with_reducible repeat (first | refine blk_drewN ?_ _ | refine blk_drew ?_ | refine blk_alloc ?_ _)); exact BK237.out) hb) (blk_below (g := gb238) (o := .cells #[.string t235, .bool t236] 75 (0, 0)) (by (with_reducible repeat (first | refine blk_drewN ?_ _ | refine blk_drew ?_ | refine blk_alloc ?_ _)); refine blk_far ?_ NB238_239.out _; (with_reducible repeat (first | refine blk_drewN ?_ _ | refine blk_drew ?_ | refine blk_alloc ?_ _)); refine blk_far ?_ NB238_239.out _; (with_reducible repeat (first | refine blk_drewN ?_ _ | refine blk_drew ?_ | refine blk_alloc ?_ _)); refine blk_far ?_ NB238_239.out _; (with_reducible repeat (first | refine blk_drewN ?_ _ | refine blk_drew ?_ | refine blk_alloc ?_ _)); exact BK238.out) hb) (blk_below (g := gb239) (o := .cells #[.string (⟨#[]⟩ : ByteArray), .string (⟨#[]⟩ : ByteArray), .string (⟨#[]⟩ : ByteArray)] 62 (0, 0)) (by (with_reducible repeat (first | refine blk_drewN ?_ _ | refine blk_drew ?_ | refine blk_alloc ?_ _)); refine blk_put (cs := #[.string (⟨#[]⟩ : ByteArray), .string (⟨#[]⟩ : ByteArray), .string (⟨#[]⟩ : ByteArray)]) ?_ 2 _ rfl; (with_reducible repeat (first | refine blk_drewN ?_ _ | refine blk_drew ?_ | refine blk_alloc ?_ _)); refine blk_put (cs := #[.string (⟨#[]⟩ : ByteArray), .string (⟨#[]⟩ : ByteArray), .string (⟨#[]⟩ : ByteArray)]) ?_ 1 _ rfl; (with_reducible repeat (first | refine blk_drewN ?_ _ | refine blk_drew ?_ | refine blk_alloc ?_ _)); refine blk_put (cs := #[.string (⟨#[]⟩ : ByteArray), .string (⟨#[]⟩ : ByteArray), .string (⟨#[]⟩ : ByteArray)]) ?_ 0 _ rfl; (with_reducible repeat (first | refine blk_drewN ?_ _ | refine blk_drew ?_ | refine blk_alloc ?_ _)); exact BK239.out) hb) (below_step zz27 hb); clear BK231 BK237 BK238 BK239 HB; obtain ⟨BK231, BK237, BK238, BK239, HB⟩ := n_; (try clear hb); obtain ⟨hcz239_0, hcz239_1, hcz239_2⟩ := cz3 BK239.out; obtain ⟨hfz239_0, hfz239_1, hfz239_2⟩ := fz3 BK239.out; obtain ⟨hcz237_0, hcz237_1⟩ := cz2 BK237.out; obtain ⟨hfz237_0, hfz237_1⟩ := fz2 BK237.out; obtain ⟨hcz231_0, hcz231_1, hcz231_2⟩ := cz3 BK231.out; obtain ⟨hfz231_0, hfz231_1, hfz231_2⟩ := fz3 BK231.out) | ((with_reducible refine gc 48 ?_); refine gL (some 28) Tryz.func48 #[.agg #[.string t232, .bool t233], .func (.func 49) #[] #[], .int .i64 64] ?_; (with_reducible refine (jid_kept_string.calls t232 t233 49 64 t242 t243 _ A5.out (tabs_b HT.out zz27)).mono ?_); rintro e v6_ ⟨rfl, hb⟩; refine ⟨_, rfl, ?_⟩; have n_ := as5 (blk_below (g := gb231) (o := .cells #[.string (⟨#[]⟩ : ByteArray), .string (⟨#[]⟩ : ByteArray), .string (⟨#[]⟩ : ByteArray)] 62 (0, 0)) (by (with_reducible repeat (first | refine blk_drewN ?_ _ | refine blk_drew ?_ | refine blk_alloc ?_ _)); refine blk_far ?_ NB231_239.out _; (with_reducible repeat (first | refine blk_drewN ?_ _ | refine blk_drew ?_ | refine blk_alloc ?_ _)); exact BK231.out) hb) (blk_below (g := gb237) (o := .cells #[.string t232, .bool t233] 75 (0, 0)) (by (with_reducible repeat (first | refine blk_drewN ?_ _ | refine blk_drew ?_ | refine blk_alloc ?_ _)); refine blk_far ?_ NB237_239.out _; (with_reducible repeat (first | refine blk_drewN ?_ _ | refine blk_drew ?_ | refine blk_alloc ?_ _)); exact BK237.out) hb) (blk_below (g := gb238) (o := .cells #[.string t235, .bool t236] 75 (0, 0)) (by (with_reducible repeat (first | refine blk_drewN ?_ _ | refine blk_drew ?_ | refine blk_alloc ?_ _)); refine blk_far ?_ NB238_239.out _; (with_reducible repeat (first | refine blk_drewN ?_ _ | refine blk_drew ?_ | refine blk_alloc ?_ _)); exact BK238.out) hb) (blk_below (g := gb239) (o := .cells #[.string (⟨#[]⟩ : ByteArray), .string t240, .string (⟨#[]⟩ : ByteArray)] 62 (0, 0)) (by (with_reducible repeat (first | refine blk_drewN ?_ _ | refine blk_drew ?_ | refine blk_alloc ?_ _)); refine blk_put (cs := #[.string (⟨#[]⟩ : ByteArray), .string (⟨#[]⟩ : ByteArray), .string (⟨#[]⟩ : ByteArray)]) ?_ 1 _ rfl; (with_reducible repeat (first | refine blk_drewN ?_ _ | refine blk_drew ?_ | refine blk_alloc ?_ _)); exact BK239.out) hb) (below_step zz27 hb); clear BK231 BK237 BK238 BK239 HB; obtain ⟨BK231, BK237, BK238, BK239, HB⟩ := n_; (try clear hb); obtain ⟨hcz239_0, hcz239_1, hcz239_2⟩ := cz3 BK239.out; obtain ⟨hfz239_0, hfz239_1, hfz239_2⟩ := fz3 BK239.out; obtain ⟨hcz238_0, hcz238_1⟩ := cz2 BK238.out; obtain ⟨hfz238_0, hfz238_1⟩ := fz2 BK238.out; obtain ⟨hcz231_0, hcz231_1, hcz231_2⟩ := cz3 BK231.out; obtain ⟨hfz231_0, hfz231_1, hfz231_2⟩ := fz3 BK231.out) | ((with_reducible refine gc 48 ?_); refine gL (some 38) Tryz.func48 #[.agg #[.string t235, .bool t236], .func (.func 50) #[] #[], .int .i64 64] ?_; (with_reducible refine (jid_kept_string.calls t235 t236 50 64 t244 t245 _ A7.out (tabs_b HT.out zz27)).mono ?_); rintro e v7_ ⟨rfl, hb⟩; refine ⟨_, rfl, ?_⟩; have n_ := as5 (blk_below (g := gb231) (o := .cells #[.string (⟨#[]⟩ : ByteArray), .string (⟨#[]⟩ : ByteArray), .string (⟨#[]⟩ : ByteArray)] 62 (0, 0)) (by (with_reducible repeat (first | refine blk_drewN ?_ _ | refine blk_drew ?_ | refine blk_alloc ?_ _)); refine blk_far ?_ NB231_239.out _; (with_reducible repeat (first | refine blk_drewN ?_ _ | refine blk_drew ?_ | refine blk_alloc ?_ _)); exact BK231.out) hb) (blk_below (g := gb237) (o := .cells #[.string t232, .bool t233] 75 (0, 0)) (by (with_reducible repeat (first | refine blk_drewN ?_ _ | refine blk_drew ?_ | refine blk_alloc ?_ _)); refine blk_far ?_ NB237_239.out _; (with_reducible repeat (first | refine blk_drewN ?_ _ | refine blk_drew ?_ | refine blk_alloc ?_ _)); exact BK237.out) hb) (blk_below (g := gb238) (o := .cells #[.string t235, .bool t236] 75 (0, 0)) (by (with_reducible repeat (first | refine blk_drewN ?_ _ | refine blk_drew ?_ | refine blk_alloc ?_ _)); refine blk_far ?_ NB238_239.out _; (with_reducible repeat (first | refine blk_drewN ?_ _ | refine blk_drew ?_ | refine blk_alloc ?_ _)); exact BK238.out) hb) (blk_below (g := gb239) (o := .cells #[.string t242, .string t240, .string (⟨#[]⟩ : ByteArray)] 62 (0, 0)) (by (with_reducible repeat (first | refine blk_drewN ?_ _ | refine blk_drew ?_ | refine blk_alloc ?_ _)); refine blk_put (cs := #[.string (⟨#[]⟩ : ByteArray), .string t240, .string (⟨#[]⟩ : ByteArray)]) ?_ 0 _ rfl; (with_reducible repeat (first | refine blk_drewN ?_ _ | refine blk_drew ?_ | refine blk_alloc ?_ _)); exact BK239.out) hb) (below_step zz27 hb); clear BK231 BK237 BK238 BK239 HB; obtain ⟨BK231, BK237, BK238, BK239, HB⟩ := n_; (try clear hb); obtain ⟨hcz239_0, hcz239_1, hcz239_2⟩ := cz3 BK239.out; obtain ⟨hfz239_0, hfz239_1, hfz239_2⟩ := fz3 BK239.out; obtain ⟨hcz231_0, hcz231_1, hcz231_2⟩ := cz3 BK231.out; obtain ⟨hfz231_0, hfz231_1, hfz231_2⟩ := fz3 BK231.out))
 first
  | (refine bodyPost_ret (results_ct rfl _ _ gb231 62 #[.string t242, .string t240, .string t244] (0, 0) _ rfl (by (with_reducible repeat (first | refine blk_drewN ?_ _ | refine blk_drew ?_ | refine blk_alloc ?_ _)); refine blk_put (cs := #[.string t242, .string t240, .string (⟨#[]⟩ : ByteArray)]) ?_ 2 _ rfl; (with_reducible repeat (first | refine blk_drewN ?_ _ | refine blk_drew ?_ | refine blk_alloc ?_ _)); refine blk_put (cs := #[.string t242, .string (⟨#[]⟩ : ByteArray), .string (⟨#[]⟩ : ByteArray)]) ?_ 1 _ rfl; (with_reducible repeat (first | refine blk_drewN ?_ _ | refine blk_drew ?_ | refine blk_alloc ?_ _)); refine blk_put (cs := #[.string (⟨#[]⟩ : ByteArray), .string (⟨#[]⟩ : ByteArray), .string (⟨#[]⟩ : ByteArray)]) ?_ 0 _ rfl; (with_reducible repeat (first | refine blk_drewN ?_ _ | refine blk_drew ?_ | refine blk_alloc ?_ _)); refine blk_far ?_ NB231_239.out _; (with_reducible repeat (first | refine blk_drewN ?_ _ | refine blk_drew ?_ | refine blk_alloc ?_ _)); exact BK231.out) Tryz.underlying62 rfl zz34) rfl ?_; exact ⟨zz4, zz27⟩)
  | (refine bodyPost_ret (results_ct rfl _ _ gb231 62 #[.string (⟨#[]⟩ : ByteArray), .string (⟨#[]⟩ : ByteArray), .string (⟨#[]⟩ : ByteArray)] (0, 0) _ rfl (by (with_reducible repeat (first | refine blk_drewN ?_ _ | refine blk_drew ?_ | refine blk_alloc ?_ _)); refine blk_put (cs := #[.string (⟨#[]⟩ : ByteArray), .string (⟨#[]⟩ : ByteArray), .string (⟨#[]⟩ : ByteArray)]) ?_ 2 _ rfl; (with_reducible repeat (first | refine blk_drewN ?_ _ | refine blk_drew ?_ | refine blk_alloc ?_ _)); refine blk_put (cs := #[.string (⟨#[]⟩ : ByteArray), .string (⟨#[]⟩ : ByteArray), .string (⟨#[]⟩ : ByteArray)]) ?_ 1 _ rfl; (with_reducible repeat (first | refine blk_drewN ?_ _ | refine blk_drew ?_ | refine blk_alloc ?_ _)); refine blk_put (cs := #[.string (⟨#[]⟩ : ByteArray), .string (⟨#[]⟩ : ByteArray), .string (⟨#[]⟩ : ByteArray)]) ?_ 0 _ rfl; (with_reducible repeat (first | refine blk_drewN ?_ _ | refine blk_drew ?_ | refine blk_alloc ?_ _)); refine blk_far ?_ NB231_239.out _; (with_reducible repeat (first | refine blk_drewN ?_ _ | refine blk_drew ?_ | refine blk_alloc ?_ _)); exact BK231.out) Tryz.underlying62 rfl zz34) rfl ?_; exact ⟨zz4, zz27⟩)) : P := h
set_option maxHeartbeats 8000000 in
set_option maxRecDepth 100000 in
theorem jid_Parse.calls (k : Nat) (a0 : ByteArray) (r1 : ByteArray) (r2 : ByteArray) (r3 : ByteArray) (r4 : Int) (w : World) (h : jid_Parse.f k a0 = some (r1, r2, r3, r4)) (hT : Tabs w) :
  Calls Tryz.prog 33 #[.string a0] w fun e w' => e = .returned (.tuple #[.agg #[.string r1, .string r2, .string r3], .int .i64 r4]) ∧ Below w.heap.size w w' := by
 have hu62 := Tryz.underlying62
 have hu75 := Tryz.underlying75
 have HT := Aside0.mk hT
 clear hT
 have HB := Aside0.mk (Below.refl w.heap.size w)
 have H : ((jid_parts.f a0).bind fun bt232 => ((jid_Domain.f k bt232.2.2.1).bind fun bt240 => (if bt240.2 = 0 then ((jid_kept_string.f bt232.1 bt232.2.1 49 64).bind fun bt242 => (if bt242.2 = 0 then ((jid_kept_string.f bt232.2.2.2.1 bt232.2.2.2.2 50 64).bind fun bt244 => (if bt244.2 = 0 then (some (bt242.1, bt240.1, bt244.1, 0)) else (some ((⟨#[]⟩ : ByteArray), (⟨#[]⟩ : ByteArray), (⟨#[]⟩ : ByteArray), bt244.2)))) else (some ((⟨#[]⟩ : ByteArray), (⟨#[]⟩ : ByteArray), (⟨#[]⟩ : ByteArray), bt242.2)))) else (some ((⟨#[]⟩ : ByteArray), (⟨#[]⟩ : ByteArray), (⟨#[]⟩ : ByteArray), bt240.2))))) = some (r1, r2, r3, r4) := h
 clear h
 replace H := Option.bind_eq_some_iff.mp H
 obtain ⟨⟨t232, t233, t234, t235, t236⟩, A20, H⟩ := H
 try dsimp only at H
 have A2 := Aside0.mk A20
 clear A20
 replace H := Option.bind_eq_some_iff.mp H
 obtain ⟨⟨t240, t241⟩, A30, H⟩ := H
 try dsimp only at H
 have A3 := Aside0.mk A30
 clear A30
 by_cases c4 : t241 = 0
 ·rw [if_pos c4] at H
  obtain ⟨c4b0, c4b1⟩ := eqT c4
  clear c4
  replace H := Option.bind_eq_some_iff.mp H
  obtain ⟨⟨t242, t243⟩, A50, H⟩ := H
  try dsimp only at H
  have A5 := Aside0.mk A50
  clear A50
  by_cases c6 : t243 = 0
  ·rw [if_pos c6] at H
   obtain ⟨c6b0, c6b1⟩ := eqT c6
   clear c6
   replace H := Option.bind_eq_some_iff.mp H
   obtain ⟨⟨t244, t245⟩, A70, H⟩ := H
   try dsimp only at H
   have A7 := Aside0.mk A70
   clear A70
   by_cases c8 : t245 = 0
   ·rw [if_pos c8] at H
    obtain ⟨c8b0, c8b1⟩ := eqT c8
    clear c8
    simp only [Option.some.injEq, Prod.mk.injEq] at H
    obtain ⟨rfl, rfl, rfl, rfl⟩ := H
    exact lf14
   rw [if_neg c8] at H
   obtain ⟨c8b0, c8b1⟩ := eqF c8
   simp only [Option.some.injEq, Prod.mk.injEq] at H
   obtain ⟨rfl, rfl, rfl, rfl⟩ := H
   exact lf14
  rw [if_neg c6] at H
  obtain ⟨c6b0, c6b1⟩ := eqF c6
  simp only [Option.some.injEq, Prod.mk.injEq] at H
  obtain ⟨rfl, rfl, rfl, rfl⟩ := H
  exact lf14
 rw [if_neg c4] at H
 obtain ⟨c4b0, c4b1⟩ := eqF c4
 simp only [Option.some.injEq, Prod.mk.injEq] at H
 obtain ⟨rfl, rfl, rfl, rfl⟩ := H
 exact lf14
end Go.Proofs.YtaekklpphlcngaaGreatDoor.Q
