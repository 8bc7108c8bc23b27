-- Written by hookprint.py (wip/) of this session: the kit's print with hand-proved functions beside it. Not trusted: Lean checks it.
import Derived.Test.YtaekklpphlcngaaGreatDoorQ0
import Derived.Test.YtaekklpphlcngaaGreatDoorQ8
import Derived.Test.YtaekklpphlcngaaGreatDoorQ9
import Derived.Test.YtaekklpphlcngaaGreatDoorQ10
import Derived.Test.YtaekklpphlcngaaGreatDoorQ11
namespace Go.Proofs.YtaekklpphlcngaaGreatDoor.Q
open List (setIfInBounds_toArray set_cons_zero set_cons_succ)
open Go.RowKit Go.Lib Go.Proofs.YtaekklpphlcngaaGreatDoorX Go.Proofs.YtaekklpphlcngaaGreatDoorW.PrintWords Go.Proofs.YtaekklpphlcngaaGreatDoorW.PrintLast Go.Proofs.YtaekklpphlcngaaGreatDoorW.PrintMore
set_option linter.unusedVariables false
set_option linter.unusedSimpArgs false
def cardexref01_utf.f (a0 : Int) : Option ByteArray := some (Utf8.encode (wrap32 a0))
set_option maxHeartbeats 4000000 in
set_option maxRecDepth 100000 in
theorem cardexref01_utf.calls (a0 : Int) (r : ByteArray) (w : World) (h : cardexref01_utf.f a0 = some r) :
  Calls Tryz.prog 122 #[.int .i64 a0] w fun e w' => e = .returned (.string r) ∧ Below w.heap.size w w' := by
 obtain rfl := Option.some.inj h
 clear h
 have hcv : (convert 80 9 (.slice (some ⟨w.heap.size, 0, none⟩) 1 1)).run Tryz.prog (w.alloc (.cells #[.int .i32 (wrap32 a0)] 21)) = .ok (.string (Utf8.encode (wrap32 a0))) (w.alloc (.cells #[.int .i32 (wrap32 a0)] 21)) := by
  have h1 := run_convert_runes (P := Tryz.prog) (w.alloc (.cells #[.int .i32 (wrap32 a0)] 21)) 80 9 21 ⟨w.heap.size, 0, none⟩ 1 1 [wrap32 a0] (Nat.le_refl _) Tryz.underlying80 Tryz.underlying21 Tryz.underlying9 (fun j hj => by
   have : j = 0 := by simp at hj; omega
   subst this
   exact blk_cell (heap_alloc_new w _) 0)
  rw [h1]
  simp [runesBytes]
 go_enter Tryz.func122, Tryz.ntmps122
 go_wp2
 go_ret
 exact ⟨rfl, below_alloc (Below.refl _ _) _⟩
def cardexref01_texts.l0 : Nat → List Int → ByteArray → Int → Option (ByteArray)
 | 0, _, _, _ => none
 | k + 1, x0, x3, x4 => if x4 < (x0.length : Int) then (if 0 ≤ x4 then ((cardexref01_utf.f (rd x0 x4)).bind fun t423 => (if x3.size + t423.size ≤ 9223372036854775807 then (cardexref01_texts.l0 k x0 (x3 ++ t423) (wrap64 (x4 + 1))) else (none))) else (none)) else (some x3)
def cardexref01_texts.f (k : Nat) (l0 : List Int) : Option (ByteArray) := cardexref01_texts.l0 k l0 (⟨#[]⟩ : ByteArray) 0
set_option maxHeartbeats 8000000 in
set_option maxRecDepth 100000 in
theorem cardexref01_texts.calls (k : Nat) (A0 : Option Addr) (c0 : Nat) (l0 : List Int) (r : ByteArray) (w : World) (hr0 : Kd.C (Kd.int .i64) w A0 l0.length l0) (hc0 : l0.length ≤ c0) (h : cardexref01_texts.f k l0 = some r) :
  Calls Tryz.prog 104 #[.slice A0 l0.length c0] w fun e w' => e = .returned (.string r) ∧ Below w.heap.size w w' := by
 have HR0 := Aside0.mk hr0
 have HC0 := Aside0.mk hc0
 clear hr0 hc0
 have HB := Aside0.mk (Below.refl w.heap.size w)
 have H : (cardexref01_texts.l0 k l0 (⟨#[]⟩ : ByteArray) 0) = some r := h
 clear h
 have H' := Aside0.mk H
 clear H
 go_enter Tryz.func104, Tryz.ntmps104
 go_wp2
 go_loopg [3, 4] k (fun kq v3 v4 w' => ∃ (x3_1 : ByteArray) (x4_1 : Int), v3 = .string x3_1 ∧ v4 = .int .i64 x4_1 ∧ Aside0 (cardexref01_texts.l0 kq l0 x3_1 x4_1 = some r) ∧ Aside0 (kq ≤ k) ∧ Aside0 (Below w.heap.size w w'))
 case atStart => exact ⟨((⟨#[]⟩ : ByteArray)), (0), zz1, zz1, H', ⟨Nat.le_refl _⟩, ⟨zz0⟩⟩
 case round =>
  clear H'
  try clear c1
  obtain ⟨x3_1, x4_1, rfl, rfl, HA, HK1, HB⟩ := hrel
  cases gk with
  | zero => exact absurd HA.out (by simp [cardexref01_texts.l0])
  | succ k1 =>
   have H := HA.out
   clear HA
   simp only [cardexref01_texts.l0] at H
   by_cases c2 : x4_1 < (l0.length : Int)
   ·rw [if_pos c2] at H
    have c2b0 := decide_eq_true c2
    clear c2
    by_cases c3 : 0 ≤ x4_1
    ·rw [if_pos c3] at H
     have c3b0 := decide_eq_true c3
     clear c3
     replace H := Option.bind_eq_some_iff.mp H
     obtain ⟨t423, A40, H⟩ := H
     try dsimp only at H
     have A4 := Aside0.mk A40
     clear A40
     by_cases c5 : x3_1.size + t423.size ≤ 9223372036854775807
     ·rw [if_pos c5] at H
      have c5b0 := eq_true c5
      have c5b1 : decide (x3_1.size + t423.size ≤ 9223372036854775807) = true := decide_eq_true c5
      try have c5b2 : (9223372036854775807 < x3_1.size + t423.size) = False := eq_false (Nat.not_lt.2 c5)
      have H' := Aside0.mk H
      clear H
      have p422 : 0 ≤ (x4_1 : Int) := of_decide_eq_true zz6
      have q422 : x4_1 < (l0.length : Int) := of_decide_eq_true zz6
      obtain ⟨ad422, e422, hx422_0⟩ := Kd.at_int HR0.out x4_1 p422 q422
      cases e422
      replace hx422_0 := hereB HB hx422_0
      replace p422 := eq_true p422
      replace q422 := eq_true q422
      go_wp2_with (first | ((with_reducible refine gc 122 ?_); refine gL (some 16) Tryz.func122 #[.int .i64 (rd l0 x4_1)] ?_; (with_reducible refine (cardexref01_utf.calls (rd l0 x4_1) t423 _ A4.out).mono ?_); rintro e w6 ⟨rfl, hb⟩; refine ⟨_, rfl, ?_⟩; replace HB := Aside0.mk (below_step zz0 hb); (try clear hb)))
      go_roundg k1
      case measure => have := HK1.out; omega
      case rel => exact ⟨(x3_1 ++ t423), (wrap64 (x4_1 + 1)), zz1, zz1, H', ⟨zz58⟩, ⟨zz0⟩⟩
     rw [if_neg c5] at H
     exact absurd H (by simp)
    rw [if_neg c3] at H
    exact absurd H (by simp)
   rw [if_neg c2] at H
   have c2b0 := decide_eq_false c2
   clear c2
   obtain rfl := Option.some.inj H
   go_wp2
   go_ret
   exact ⟨zz4, zz0⟩
def cardexref01_prep.l0 : Nat → Int → List Int → Int → Option (ByteArray × Int)
 | 0, _, _, _ => none
 | k + 1, x1, x6, x7 => if x7 < (x6.length : Int) then (if 0 ≤ x7 then ((cardexref01_allowed.f k x1 (rd x6 x7)).bind fun t432 => (if t432 = true then (cardexref01_prep.l0 k x1 x6 (wrap64 (x7 + 1))) else (some ((⟨#[]⟩ : ByteArray), 15)))) else (none)) else ((cardexref01_way.f k x6).bind fun t433 => (if t433 = true then ((cardexref01_texts.f k x6).bind fun t434 => (some (t434, 0))) else (some ((⟨#[]⟩ : ByteArray), 16))))
def cardexref01_prep.f (k : Nat) (a0 : ByteArray) (a1 : Int) : Option (ByteArray × Int) := (cardexref01_Valid.f k a0).bind fun t424 => (if t424 = true then ((cardexref01_Runes.f k a0).bind fun t425 => ((cardexref01_mapped.f k t425 (a1 != 3)).bind fun t428 => (cardexref01_prep.l0 k a1 t428 0))) else (some ((⟨#[]⟩ : ByteArray), 3)))
set_option maxRecDepth 100000 in
theorem lf23 {P : Prop} (h : P := by
 go_wp2_with (first | ((with_reducible refine gc 102 ?_); refine gL (some 27) Tryz.func102 #[.int .i64 a1, .int .i64 (rd t428 x7_1)] ?_; (with_reducible refine (cardexref01_allowed.calls k1 a1 (rd t428 x7_1) true _ A12.out).mono ?_); rintro e v0_ ⟨rfl, hb⟩; refine ⟨_, rfl, ?_⟩; have n_ := as2 (Kd.R_below zz12 hb) (below_step zz0 hb); clear HO_6 HB; obtain ⟨HO_6, HB⟩ := n_; (try clear hb)) | ((with_reducible refine gc 102 ?_); refine gL (some 27) Tryz.func102 #[.int .i64 a1, .int .i64 (rd t428 x7_1)] ?_; (with_reducible refine (cardexref01_allowed.calls k1 a1 (rd t428 x7_1) false _ A12.out).mono ?_); rintro e v0_ ⟨rfl, hb⟩; refine ⟨_, rfl, ?_⟩; have n_ := as2 (Kd.R_below zz12 hb) (below_step zz0 hb); clear HO_6 HB; obtain ⟨HO_6, HB⟩ := n_; (try clear hb)) | ((with_reducible refine gc 103 ?_); refine gL (some 30) Tryz.func103 #[.slice Ao24 t428.length co24] ?_; (with_reducible refine (cardexref01_way.calls k1 _ _ t428 false _ ?side1 ?side2 A18.out).mono ?_); (case side1 => exact zz19); (case side2 => exact (Kd.R_reads' HO_6.out).2.1); rintro e v0_ ⟨rfl, hb⟩; refine ⟨_, rfl, ?_⟩; have n_ := as2 (Kd.R_below zz12 hb) (below_step zz0 hb); clear HO_6 HB; obtain ⟨HO_6, HB⟩ := n_; (try clear hb)) | ((with_reducible refine gc 103 ?_); refine gL (some 30) Tryz.func103 #[.slice Ao21 t428.length co21] ?_; (with_reducible refine (cardexref01_way.calls k1 _ _ t428 true _ ?side1 ?side2 A18.out).mono ?_); (case side1 => exact zz19); (case side2 => exact (Kd.R_reads' HO_6.out).2.1); rintro e v0_ ⟨rfl, hb⟩; refine ⟨_, rfl, ?_⟩; have n_ := as2 (Kd.R_below zz12 hb) (below_step zz0 hb); clear HO_6 HB; obtain ⟨HO_6, HB⟩ := n_; (try clear hb)) | ((with_reducible refine gc 104 ?_); refine gL (some 33) Tryz.func104 #[.slice Ao21 t428.length co21] ?_; (with_reducible refine (cardexref01_texts.calls k1 _ _ t428 t434 _ ?side1 ?side2 A20.out).mono ?_); (case side1 => exact zz19); (case side2 => exact (Kd.R_reads' HO_6.out).2.1); rintro e v1_ ⟨rfl, hb⟩; refine ⟨_, rfl, ?_⟩; have n_ := as2 (Kd.R_below zz12 hb) (below_step zz0 hb); clear HO_6 HB; obtain ⟨HO_6, HB⟩ := n_; (try clear hb)))
 first
  | (go_roundg k1; (case measure => have := HK1.out; omega); (case rel => exact ⟨(wrap64 (x7_1 + 1)), zz1, H', ⟨zz58⟩, ⟨zz12⟩, ⟨zz0⟩⟩))
  | (go_ret2; exact ⟨zz4, zz0⟩)) : P := h
set_option maxHeartbeats 8000000 in
set_option maxRecDepth 100000 in
theorem cardexref01_prep.calls (k : Nat) (a0 : ByteArray) (a1 : Int) (r1 : ByteArray) (r2 : Int) (w : World) (h : cardexref01_prep.f k a0 a1 = some (r1, r2)) :
  Calls Tryz.prog 79 #[.string a0, .int .i64 a1] w fun e w' => e = .returned (.tuple #[.string r1, .int .i64 r2]) ∧ Below w.heap.size w w' := by
 have HB := Aside0.mk (Below.refl w.heap.size w)
 have H : ((cardexref01_Valid.f k a0).bind fun t424 => (if t424 = true then ((cardexref01_Runes.f k a0).bind fun t425 => ((cardexref01_mapped.f k t425 (a1 != 3)).bind fun t428 => (cardexref01_prep.l0 k a1 t428 0))) else (some ((⟨#[]⟩ : ByteArray), 3)))) = some (r1, r2) := h
 clear h
 replace H := Option.bind_eq_some_iff.mp H
 obtain ⟨t424, A30, H⟩ := H
 try dsimp only at H
 have A3 := Aside0.mk A30
 clear A30
 by_cases c4 : t424 = true
 ·subst c4
  have H1 : ((cardexref01_Runes.f k a0).bind fun t425 => ((cardexref01_mapped.f k t425 (a1 != 3)).bind fun t428 => (cardexref01_prep.l0 k a1 t428 0))) = some (r1, r2) := by rw [if_pos rfl] at H; exact H
  clear H
  have H := H1
  clear H1
  replace H := Option.bind_eq_some_iff.mp H
  obtain ⟨t425, A50, H⟩ := H
  try dsimp only at H
  have A5 := Aside0.mk A50
  clear A50
  replace H := Option.bind_eq_some_iff.mp H
  obtain ⟨t428, A60, H⟩ := H
  try dsimp only at H
  have A6 := Aside0.mk A60
  clear A60
  have H' := Aside0.mk H
  clear H
  go_enter Tryz.func79, Tryz.ntmps79
  go_wp2_with (first | ((with_reducible refine gc 45 ?_); refine gL (some 9) Tryz.func45 #[.string a0] ?_; (with_reducible refine (cardexref01_Valid.calls k a0 true _ A3.out).mono ?_); rintro e w' ⟨rfl, ⟨nd, rfl⟩⟩; refine ⟨_, rfl, ?_⟩) | ((with_reducible refine gc 44 ?_); refine gL (some 12) Tryz.func44 #[.string a0] ?_; (with_reducible refine (cardexref01_Runes.calls k a0 t425 _ A5.out).mono ?_); rintro e w7 ⟨v426, rfl, ho0, hb⟩; refine ⟨_, rfl, ?_⟩; have n_ := as2 (Kd.R_lower ho0 (below_size zz0)) (below_step zz0 hb); clear HB; obtain ⟨HO427, HB⟩ := n_; (try clear hb ho0); obtain ⟨Ao8, co8, eo8⟩ := Kd.R_slice HO427.out; subst eo8) | ((with_reducible refine gc 101 ?_); refine gL (some 15) Tryz.func101 #[.slice Ao8 t425.length co8, .bool (a1 != 3)] ?_; (with_reducible refine (cardexref01_mapped.calls k _ _ t425 (a1 != 3) t428 _ ?side1 ?side2 A6.out).mono ?_); (case side1 => exact (by repeat (first | exact (Kd.R_reads' HO427.out).2.2 | (with_reducible refine Kd.C_alloc ?_ _) | (with_reducible refine Kd.C_drewN ?_ _) | (with_reducible refine Kd.C_drew ?_)))); (case side2 => exact (Kd.R_reads' HO427.out).2.1); rintro e w9 ⟨v429, rfl, ho0, hb⟩; refine ⟨_, rfl, ?_⟩; have n_ := as3 (Kd.R_elder' (by (with_reducible repeat (first | apply Kd.R_alloc | apply Kd.R_drewN | apply Kd.R_drew)); exact HO427.out) (Kd.R_base ho0) hb) (Kd.R_lower (Kd.R_new' ho0 (Kd.R_lt (by (with_reducible repeat (first | apply Kd.R_alloc | apply Kd.R_drewN | apply Kd.R_drew)); exact HO427.out))) (below_size zz0)) (below_step zz0 hb); clear HO427 HB; obtain ⟨HO427, HO430, HB⟩ := n_; (try clear hb ho0)))
  go_loopg [7] k (fun kq v7 w' => ∃ (x7_1 : Int), v7 = .int .i64 x7_1 ∧ Aside0 (cardexref01_prep.l0 kq a1 t428 x7_1 = some (r1, r2)) ∧ Aside0 (kq ≤ k) ∧ Aside0 (Kd.R (Kd.int .i64) 3 w' w.heap.size (fun _ => True) v429 t428) ∧ Aside0 (Below w.heap.size w w'))
  case atStart => exact ⟨(0), zz1, H', ⟨Nat.le_refl _⟩, ⟨by (with_reducible repeat (first | apply Kd.R_alloc | apply Kd.R_drewN | apply Kd.R_drew)); exact Kd.R_mono HO430.out (fun _ hk => trivial)⟩, ⟨zz0⟩⟩
  case round =>
   clear H'
   try clear c1
   try clear p2
   try clear c4
   try clear c7
   obtain ⟨x7_1, rfl, HA, HK1, HO_6, HB⟩ := hrel
   cases gk with
   | zero => exact absurd HA.out (by simp [cardexref01_prep.l0])
   | succ k1 =>
    have H := HA.out
    clear HA
    simp only [cardexref01_prep.l0] at H
    by_cases c10 : x7_1 < (t428.length : Int)
    ·rw [if_pos c10] at H
     have c10b0 := decide_eq_true c10
     clear c10
     by_cases c11 : 0 ≤ x7_1
     ·rw [if_pos c11] at H
      have c11b0 := decide_eq_true c11
      clear c11
      replace H := Option.bind_eq_some_iff.mp H
      obtain ⟨t432, A120, H⟩ := H
      try dsimp only at H
      have A12 := Aside0.mk A120
      clear A120
      by_cases c13 : t432 = true
      ·subst c13
       have H1 : (cardexref01_prep.l0 k1 a1 t428 (wrap64 (x7_1 + 1))) = some (r1, r2) := by rw [if_pos rfl] at H; exact H
       clear H
       have H := H1
       clear H1
       have H' := Aside0.mk H
       clear H
       obtain ⟨Ao14, co14, eo14⟩ := Kd.R_slice HO_6.out
       subst eo14
       have p431 : 0 ≤ (x7_1 : Int) := of_decide_eq_true zz6
       have q431 : x7_1 < (t428.length : Int) := of_decide_eq_true zz6
       obtain ⟨ad431, e431, hx431_0⟩ := Kd.at_int (Kd.R_reads' HO_6.out).2.2 x7_1 p431 q431
       cases e431
       replace p431 := eq_true p431
       replace q431 := eq_true q431
       exact lf23
      replace c13 := Bool.eq_false_iff.mpr c13
      subst c13
      have H1 : (some ((⟨#[]⟩ : ByteArray), 15)) = some (r1, r2) := by rw [if_neg (show ¬ (false = true) by decide)] at H; exact H
      clear H
      have H := H1
      clear H1
      simp only [Option.some.injEq, Prod.mk.injEq] at H
      obtain ⟨rfl, rfl⟩ := H
      obtain ⟨Ao16, co16, eo16⟩ := Kd.R_slice HO_6.out
      subst eo16
      have p431 : 0 ≤ (x7_1 : Int) := of_decide_eq_true zz6
      have q431 : x7_1 < (t428.length : Int) := of_decide_eq_true zz6
      obtain ⟨ad431, e431, hx431_0⟩ := Kd.at_int (Kd.R_reads' HO_6.out).2.2 x7_1 p431 q431
      cases e431
      replace p431 := eq_true p431
      replace q431 := eq_true q431
      exact lf23
     rw [if_neg c11] at H
     exact absurd H (by simp)
    rw [if_neg c10] at H
    have c10b0 := decide_eq_false c10
    clear c10
    replace H := Option.bind_eq_some_iff.mp H
    obtain ⟨t433, A180, H⟩ := H
    try dsimp only at H
    have A18 := Aside0.mk A180
    clear A180
    by_cases c19 : t433 = true
    ·subst c19
     have H1 : ((cardexref01_texts.f k1 t428).bind fun t434 => (some (t434, 0))) = some (r1, r2) := by rw [if_pos rfl] at H; exact H
     clear H
     have H := H1
     clear H1
     replace H := Option.bind_eq_some_iff.mp H
     obtain ⟨t434, A200, H⟩ := H
     try dsimp only at H
     have A20 := Aside0.mk A200
     clear A200
     simp only [Option.some.injEq, Prod.mk.injEq] at H
     obtain ⟨rfl, rfl⟩ := H
     obtain ⟨Ao21, co21, eo21⟩ := Kd.R_slice HO_6.out
     subst eo21
     exact lf23
    replace c19 := Bool.eq_false_iff.mpr c19
    subst c19
    have H1 : (some ((⟨#[]⟩ : ByteArray), 16)) = some (r1, r2) := by rw [if_neg (show ¬ (false = true) by decide)] at H; exact H
    clear H
    have H := H1
    clear H1
    simp only [Option.some.injEq, Prod.mk.injEq] at H
    obtain ⟨rfl, rfl⟩ := H
    obtain ⟨Ao24, co24, eo24⟩ := Kd.R_slice HO_6.out
    subst eo24
    exact lf23
 replace c4 := Bool.eq_false_iff.mpr c4
 subst c4
 have H1 : (some ((⟨#[]⟩ : ByteArray), 3)) = some (r1, r2) := by rw [if_neg (show ¬ (false = true) by decide)] at H; exact H
 clear H
 have H := H1
 clear H1
 simp only [Option.some.injEq, Prod.mk.injEq] at H
 obtain ⟨rfl, rfl⟩ := H
 go_enter Tryz.func79, Tryz.ntmps79
 go_wp2_with (first | ((with_reducible refine gc 45 ?_); refine gL (some 9) Tryz.func45 #[.string a0] ?_; (with_reducible refine (cardexref01_Valid.calls k a0 false _ A3.out).mono ?_); rintro e w' ⟨rfl, ⟨nd, rfl⟩⟩; refine ⟨_, rfl, ?_⟩))
 go_ret2
 exact ⟨zz4, zz0⟩
def cardexref01_Host.f (k : Nat) (a0 : ByteArray) : Option (ByteArray × Int) := (cardexref01_prep.f k a0 2).bind fun bt435 => (some (bt435.1, bt435.2))
set_option maxHeartbeats 8000000 in
set_option maxRecDepth 100000 in
theorem cardexref01_Host.calls (k : Nat) (a0 : ByteArray) (r1 : ByteArray) (r2 : Int) (w : World) (h : cardexref01_Host.f k a0 = some (r1, r2)) :
  Calls Tryz.prog 78 #[.string a0] w fun e w' => e = .returned (.tuple #[.string r1, .int .i64 r2]) ∧ Below w.heap.size w w' := by
 have HB := Aside0.mk (Below.refl w.heap.size w)
 have H : ((cardexref01_prep.f k a0 2).bind fun bt435 => (some (bt435.1, bt435.2))) = some (r1, r2) := h
 clear h
 replace H := Option.bind_eq_some_iff.mp H
 obtain ⟨⟨t435, t436⟩, A20, H⟩ := H
 try dsimp only at H
 have A2 := Aside0.mk A20
 clear A20
 simp only [Option.some.injEq, Prod.mk.injEq] at H
 obtain ⟨rfl, rfl⟩ := H
 go_enter Tryz.func78, Tryz.ntmps78
 go_wp2_with (first | ((with_reducible refine gc 79 ?_); refine gL (some 5) Tryz.func79 #[.string a0, .int .i64 2] ?_; (with_reducible refine (cardexref01_prep.calls k a0 2 t435 t436 _ A2.out).mono ?_); rintro e w3 ⟨rfl, hb⟩; refine ⟨_, rfl, ?_⟩; replace HB := Aside0.mk (below_step zz0 hb); (try clear hb)))
 go_ret2
 exact ⟨zz4, zz0⟩
end Go.Proofs.YtaekklpphlcngaaGreatDoor.Q
