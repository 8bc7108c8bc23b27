-- Written by hookprint.py (wip/) of this session: the kit's print with hand-proved functions beside it. Not trusted: Lean checks it.
import Derived.Test.YtaekklpphlcngaaGreatDoorQ0
import Derived.Test.YtaekklpphlcngaaGreatDoorQ1
import Derived.Test.YtaekklpphlcngaaGreatDoorQ2
import Derived.Test.YtaekklpphlcngaaGreatDoorQ4
namespace Go.Proofs.YtaekklpphlcngaaGreatDoor.Q
open List (setIfInBounds_toArray set_cons_zero set_cons_succ)
open Go.RowKit Go.Lib Go.Proofs.YtaekklpphlcngaaGreatDoorX Go.Proofs.YtaekklpphlcngaaGreatDoorW.PrintWords Go.Proofs.YtaekklpphlcngaaGreatDoorW.PrintLast Go.Proofs.YtaekklpphlcngaaGreatDoorW.PrintMore
set_option linter.unusedVariables false
set_option linter.unusedSimpArgs false
def jid_Text.f (a0_0 : ByteArray) (a0_1 : ByteArray) (a0_2 : ByteArray) : Option (ByteArray) := if a0_0.toList = ([] : List UInt8) then (if a0_2.toList = ([] : List UInt8) then (some a0_1) else (if 1 + a0_2.size ≤ 9223372036854775807 then (if a0_1.size + ((⟨#[47]⟩ : ByteArray) ++ a0_2).size ≤ 9223372036854775807 then (some (a0_1 ++ ((⟨#[47]⟩ : ByteArray) ++ a0_2))) else (none)) else (none))) else (if a0_0.size + 1 ≤ 9223372036854775807 then (if (a0_0 ++ (⟨#[64]⟩ : ByteArray)).size + a0_1.size ≤ 9223372036854775807 then (if a0_2.toList = ([] : List UInt8) then (some ((a0_0 ++ (⟨#[64]⟩ : ByteArray)) ++ a0_1)) else (if 1 + a0_2.size ≤ 9223372036854775807 then (if ((a0_0 ++ (⟨#[64]⟩ : ByteArray)) ++ a0_1).size + ((⟨#[47]⟩ : ByteArray) ++ a0_2).size ≤ 9223372036854775807 then (some (((a0_0 ++ (⟨#[64]⟩ : ByteArray)) ++ a0_1) ++ ((⟨#[47]⟩ : ByteArray) ++ a0_2))) else (none)) else (none))) else (none)) else (none))
theorem lf15 {P : Prop} (h : P := by
 go_enter Tryz.func34, Tryz.ntmps34
 go_wp2_with (first | ((with_reducible refine gd 1 ?_); refine bz #[.string a0_0, .string a0_1, .string a0_2] 62 ?_; intro gb246 hg v0_ hbox hb; have n_ := as4 (below_step zz0 hb) hbox (gs w hg zz0) (gs w hg zz0); clear HB; obtain ⟨HB, BK246, GW246, GE246⟩ := n_; clear hb hbox hg; obtain ⟨hcz246_0, hcz246_1, hcz246_2⟩ := cz3 BK246.out; obtain ⟨hfz246_0, hfz246_1, hfz246_2⟩ := fz3 BK246.out))
 go_ret; exact ⟨zz4, by repeat (first | (with_reducible first | exact HB.out | apply below_alloc | apply pw_below_drewN | apply below_drew1 | refine below_set ?_ GE246.out) | exact HB.out)⟩) : P := h
set_option maxHeartbeats 8000000 in
set_option maxRecDepth 100000 in
theorem jid_Text.calls (a0_0 : ByteArray) (a0_1 : ByteArray) (a0_2 : ByteArray) (r : ByteArray) (w : World) (h : jid_Text.f a0_0 a0_1 a0_2 = some r) :
  Calls Tryz.prog 34 #[.agg #[.string a0_0, .string a0_1, .string a0_2]] w fun e w' => e = .returned (.string r) ∧ Below w.heap.size w w' := by
 have hu62 := Tryz.underlying62
 have HB := Aside0.mk (Below.refl w.heap.size w)
 have H : (if a0_0.toList = ([] : List UInt8) then (if a0_2.toList = ([] : List UInt8) then (some a0_1) else (if 1 + a0_2.size ≤ 9223372036854775807 then (if a0_1.size + ((⟨#[47]⟩ : ByteArray) ++ a0_2).size ≤ 9223372036854775807 then (some (a0_1 ++ ((⟨#[47]⟩ : ByteArray) ++ a0_2))) else (none)) else (none))) else (if a0_0.size + 1 ≤ 9223372036854775807 then (if (a0_0 ++ (⟨#[64]⟩ : ByteArray)).size + a0_1.size ≤ 9223372036854775807 then (if a0_2.toList = ([] : List UInt8) then (some ((a0_0 ++ (⟨#[64]⟩ : ByteArray)) ++ a0_1)) else (if 1 + a0_2.size ≤ 9223372036854775807 then (if ((a0_0 ++ (⟨#[64]⟩ : ByteArray)) ++ a0_1).size + ((⟨#[47]⟩ : ByteArray) ++ a0_2).size ≤ 9223372036854775807 then (some (((a0_0 ++ (⟨#[64]⟩ : ByteArray)) ++ a0_1) ++ ((⟨#[47]⟩ : ByteArray) ++ a0_2))) else (none)) else (none))) else (none)) else (none))) = some r := h
 clear h
 by_cases c2 : a0_0.toList = ([] : List UInt8)
 ·rw [if_pos c2] at H
  obtain ⟨c2b0, c2b1⟩ := eqT c2
  clear c2
  by_cases c3 : a0_2.toList = ([] : List UInt8)
  ·rw [if_pos c3] at H
   obtain ⟨c3b0, c3b1⟩ := eqT c3
   clear c3
   obtain rfl := Option.some.inj H
   exact lf15
  rw [if_neg c3] at H
  obtain ⟨c3b0, c3b1⟩ := eqF c3
  by_cases c6 : 1 + a0_2.size ≤ 9223372036854775807
  ·rw [if_pos c6] at H
   have c6b0 := eq_true c6
   have c6b1 : decide (1 + a0_2.size ≤ 9223372036854775807) = true := decide_eq_true c6
   try have c6b2 : (9223372036854775807 < 1 + a0_2.size) = False := eq_false (Nat.not_lt.2 c6)
   by_cases c7 : a0_1.size + ((⟨#[47]⟩ : ByteArray) ++ a0_2).size ≤ 9223372036854775807
   ·rw [if_pos c7] at H
    have c7b0 := eq_true c7
    have c7b1 : decide (a0_1.size + ((⟨#[47]⟩ : ByteArray) ++ a0_2).size ≤ 9223372036854775807) = true := decide_eq_true c7
    try have c7b2 : (9223372036854775807 < a0_1.size + ((⟨#[47]⟩ : ByteArray) ++ a0_2).size) = False := eq_false (Nat.not_lt.2 c7)
    try have c7b3 : (9223372036854775807 < a0_1.size + (1 + a0_2.size)) = False := eq_false (Nat.not_lt.2 (by have h_ := c7; simp only [ByteArray.size_append] at h_; exact h_))
    obtain rfl := Option.some.inj H
    exact lf15
   rw [if_neg c7] at H
   exact absurd H (by simp)
  rw [if_neg c6] at H
  exact absurd H (by simp)
 rw [if_neg c2] at H
 obtain ⟨c2b0, c2b1⟩ := eqF c2
 by_cases c10 : a0_0.size + 1 ≤ 9223372036854775807
 ·rw [if_pos c10] at H
  have c10b0 := eq_true c10
  have c10b1 : decide (a0_0.size + 1 ≤ 9223372036854775807) = true := decide_eq_true c10
  try have c10b2 : (9223372036854775807 < a0_0.size + 1) = False := eq_false (Nat.not_lt.2 c10)
  by_cases c11 : (a0_0 ++ (⟨#[64]⟩ : ByteArray)).size + a0_1.size ≤ 9223372036854775807
  ·rw [if_pos c11] at H
   have c11b0 := eq_true c11
   have c11b1 : decide ((a0_0 ++ (⟨#[64]⟩ : ByteArray)).size + a0_1.size ≤ 9223372036854775807) = true := decide_eq_true c11
   try have c11b2 : (9223372036854775807 < (a0_0 ++ (⟨#[64]⟩ : ByteArray)).size + a0_1.size) = False := eq_false (Nat.not_lt.2 c11)
   try have c11b3 : (9223372036854775807 < a0_0.size + 1 + a0_1.size) = False := eq_false (Nat.not_lt.2 (by have h_ := c11; simp only [ByteArray.size_append] at h_; exact h_))
   by_cases c12 : a0_2.toList = ([] : List UInt8)
   ·rw [if_pos c12] at H
    obtain ⟨c12b0, c12b1⟩ := eqT c12
    clear c12
    obtain rfl := Option.some.inj H
    exact lf15
   rw [if_neg c12] at H
   obtain ⟨c12b0, c12b1⟩ := eqF c12
   by_cases c15 : 1 + a0_2.size ≤ 9223372036854775807
   ·rw [if_pos c15] at H
    have c15b0 := eq_true c15
    have c15b1 : decide (1 + a0_2.size ≤ 9223372036854775807) = true := decide_eq_true c15
    try have c15b2 : (9223372036854775807 < 1 + a0_2.size) = False := eq_false (Nat.not_lt.2 c15)
    by_cases c16 : ((a0_0 ++ (⟨#[64]⟩ : ByteArray)) ++ a0_1).size + ((⟨#[47]⟩ : ByteArray) ++ a0_2).size ≤ 9223372036854775807
    ·rw [if_pos c16] at H
     have c16b0 := eq_true c16
     have c16b1 : decide (((a0_0 ++ (⟨#[64]⟩ : ByteArray)) ++ a0_1).size + ((⟨#[47]⟩ : ByteArray) ++ a0_2).size ≤ 9223372036854775807) = true := decide_eq_true c16
     try have c16b2 : (9223372036854775807 < ((a0_0 ++ (⟨#[64]⟩ : ByteArray)) ++ a0_1).size + ((⟨#[47]⟩ : ByteArray) ++ a0_2).size) = False := eq_false (Nat.not_lt.2 c16)
     try have c16b3 : (9223372036854775807 < a0_0.size + 1 + a0_1.size + (1 + a0_2.size)) = False := eq_false (Nat.not_lt.2 (by have h_ := c16; simp only [ByteArray.size_append] at h_; exact h_))
     obtain rfl := Option.some.inj H
     exact lf15
    rw [if_neg c16] at H
    exact absurd H (by simp)
   rw [if_neg c15] at H
   exact absurd H (by simp)
  rw [if_neg c11] at H
  exact absurd H (by simp)
 rw [if_neg c10] at H
 exact absurd H (by simp)
def jid_Bare.f (k : Nat) (a0 : ByteArray) : Option (ByteArray × Int) := (jid_Parse.f k a0).bind fun bt247 => (if bt247.2.2.2 = 0 then (if bt247.2.2.1.toList = ([] : List UInt8) then ((jid_Text.f bt247.1 bt247.2.1 bt247.2.2.1).bind fun t252 => (some (t252, 0))) else (some ((⟨#[]⟩ : ByteArray), 14))) else (some ((⟨#[]⟩ : ByteArray), bt247.2.2.2)))
theorem jid_Bare.mono : ∀ a0 k, LeO (jid_Bare.f k a0) (jid_Bare.f (k + 1) a0) := by
 intro a0 k
 unfold jid_Bare.f
 repeat' first
   | (with_reducible exact jid_Parse.mono _ _)
   | (with_reducible exact LeO.refl _)
   | (with_reducible exact LeO.none _)
   | (with_reducible refine LeO.ite ?_ ?_)
   | (with_reducible refine LeO.bind ?_ (fun _ => ?_))
   | exact jid_Parse.mono _ _
   | exact LeO.none _
   | refine LeO.ite ?_ ?_
   | refine LeO.bind ?_ (fun _ => ?_)
set_option maxRecDepth 100000 in
theorem lf16 {P : Prop} (h : P := by
 go_enter Tryz.func17, Tryz.ntmps17
 go_wp2_with (first | ((with_reducible refine gc 33 ?_); refine gL (some 8) Tryz.func33 #[.string a0] ?_; (with_reducible refine (jid_Parse.calls k a0 t247 t248 t249 t250 _ A2.out (tabs_b HT.out zz0)).mono ?_); rintro e v0_ ⟨rfl, hb⟩; refine ⟨_, rfl, ?_⟩; replace HB := Aside0.mk (below_step zz0 hb); (try clear hb)) | ((with_reducible refine gd 4 ?_); refine bz #[.string (⟨#[]⟩ : ByteArray), .string (⟨#[]⟩ : ByteArray), .string (⟨#[]⟩ : ByteArray)] 62 ?_; intro gb251 hg v1_ hbox hb; have n_ := as4 (below_step zz0 hb) hbox (gs w hg zz0) (gs w hg zz0); clear HB; obtain ⟨HB, BK251, GW251, GE251⟩ := n_; clear hb hbox hg; obtain ⟨hcz251_0, hcz251_1, hcz251_2⟩ := cz3 BK251.out; obtain ⟨hfz251_0, hfz251_1, hfz251_2⟩ := fz3 BK251.out) | ((with_reducible refine gc 34 ?_); refine gL (some 20) Tryz.func34 #[.agg #[.string t247, .string t248, .string t249]] ?_; (with_reducible refine (jid_Text.calls t247 t248 t249 t252 _ A5.out).mono ?_); rintro e v2_ ⟨rfl, hb⟩; refine ⟨_, rfl, ?_⟩; have n_ := as2 (blk_below (g := gb251) (o := .cells #[.string t247, .string t248, .string t249] 62 (0, 0)) (by (with_reducible repeat (first | refine blk_drewN ?_ _ | refine blk_drew ?_ | refine blk_alloc ?_ _)); refine blk_put (cs := #[.string t247, .string t248, .string (⟨#[]⟩ : ByteArray)]) ?_ 2 _ rfl; (with_reducible repeat (first | refine blk_drewN ?_ _ | refine blk_drew ?_ | refine blk_alloc ?_ _)); refine blk_put (cs := #[.string t247, .string (⟨#[]⟩ : ByteArray), .string (⟨#[]⟩ : ByteArray)]) ?_ 1 _ rfl; (with_reducible repeat (first | refine blk_drewN ?_ _ | refine blk_drew ?_ | refine blk_alloc ?_ _)); refine blk_put (cs := #[.string (⟨#[]⟩ : ByteArray), .string (⟨#[]⟩ : ByteArray), .string (⟨#[]⟩ : ByteArray)]) ?_ 0 _ rfl; (with_reducible repeat (first | refine blk_drewN ?_ _ | refine blk_drew ?_ | refine blk_alloc ?_ _)); exact BK251.out) hb) (below_step (by repeat (first | (with_reducible first | exact HB.out | apply below_alloc | apply pw_below_drewN | apply below_drew1 | refine below_set ?_ GE251.out) | exact HB.out)) hb); clear BK251 HB; obtain ⟨BK251, HB⟩ := n_; (try clear hb)))
 go_ret2; exact ⟨zz4, by repeat (first | (with_reducible first | exact HB.out | apply below_alloc | apply pw_below_drewN | apply below_drew1 | refine below_set ?_ GE251.out) | exact HB.out)⟩) : P := h
set_option maxHeartbeats 8000000 in
set_option maxRecDepth 100000 in
theorem jid_Bare.calls (k : Nat) (a0 : ByteArray) (r1 : ByteArray) (r2 : Int) (w : World) (h : jid_Bare.f k a0 = some (r1, r2)) (hT : Tabs w) :
  Calls Tryz.prog 17 #[.string a0] w fun e w' => e = .returned (.tuple #[.string r1, .int .i64 r2]) ∧ Below w.heap.size w w' := by
 have hu62 := Tryz.underlying62
 have HT := Aside0.mk hT
 clear hT
 have HB := Aside0.mk (Below.refl w.heap.size w)
 have H : ((jid_Parse.f k a0).bind fun bt247 => (if bt247.2.2.2 = 0 then (if bt247.2.2.1.toList = ([] : List UInt8) then ((jid_Text.f bt247.1 bt247.2.1 bt247.2.2.1).bind fun t252 => (some (t252, 0))) else (some ((⟨#[]⟩ : ByteArray), 14))) else (some ((⟨#[]⟩ : ByteArray), bt247.2.2.2)))) = some (r1, r2) := h
 clear h
 replace H := Option.bind_eq_some_iff.mp H
 obtain ⟨⟨t247, t248, t249, t250⟩, A20, H⟩ := H
 try dsimp only at H
 have A2 := Aside0.mk A20
 clear A20
 by_cases c3 : t250 = 0
 ·rw [if_pos c3] at H
  obtain ⟨c3b0, c3b1⟩ := eqT c3
  clear c3
  by_cases c4 : t249.toList = ([] : List UInt8)
  ·rw [if_pos c4] at H
   obtain ⟨c4b0, c4b1⟩ := eqT c4
   clear c4
   replace H := Option.bind_eq_some_iff.mp H
   obtain ⟨t252, A50, H⟩ := H
   try dsimp only at H
   have A5 := Aside0.mk A50
   clear A50
   simp only [Option.some.injEq, Prod.mk.injEq] at H
   obtain ⟨rfl, rfl⟩ := H
   exact lf16
  rw [if_neg c4] at H
  obtain ⟨c4b0, c4b1⟩ := eqF c4
  simp only [Option.some.injEq, Prod.mk.injEq] at H
  obtain ⟨rfl, rfl⟩ := H
  exact lf16
 rw [if_neg c3] at H
 obtain ⟨c3b0, c3b1⟩ := eqF c3
 simp only [Option.some.injEq, Prod.mk.injEq] at H
 obtain ⟨rfl, rfl⟩ := H
 exact lf16
def utf_Count.f (a0 : ByteArray) : Option (Int) := (utf_Runes.f a0).bind fun t253 => (some (t253.length : Int))
set_option maxHeartbeats 8000000 in
set_option maxRecDepth 100000 in
theorem utf_Count.calls (a0 : ByteArray) (r : Int) (w : World) (h : utf_Count.f a0 = some r) (hT : Tabs w) :
  Calls Tryz.prog 37 #[.string a0] w fun e w' => e = .returned (.int .i64 r) ∧ Below w.heap.size w w' := by
 have HT := Aside0.mk hT
 clear hT
 have HB := Aside0.mk (Below.refl w.heap.size w)
 have H : ((utf_Runes.f a0).bind fun t253 => (some (t253.length : Int))) = some r := h
 clear h
 replace H := Option.bind_eq_some_iff.mp H
 obtain ⟨t253, A20, H⟩ := H
 try dsimp only at H
 have A2 := Aside0.mk A20
 clear A20
 obtain rfl := Option.some.inj H
 go_enter Tryz.func37, Tryz.ntmps37
 go_wp2_with (first | ((with_reducible refine gc 54 ?_); refine gL (some 4) Tryz.func54 #[.string a0] ?_; (with_reducible refine (utf_Runes.calls a0 t253 _ A2.out (tabs_b HT.out zz0)).mono ?_); rintro e w3 ⟨v254, rfl, ho0, hb⟩; refine ⟨_, rfl, ?_⟩; have n_ := as2 (Kd.R_lower ho0 (below_size zz0)) (below_step zz0 hb); clear HB; obtain ⟨HO255, HB⟩ := n_; (try clear hb ho0); obtain ⟨Ao4, co4, eo4⟩ := Kd.R_slice HO255.out; subst eo4))
 go_ret
 exact ⟨zz4, zz0⟩
def lineT (s : ByteArray) : Bool := validD s.data.toList && (runesI s).all shownB
theorem line_valid {s : ByteArray} (h : lineT s = true) : validT s = true := by
 unfold lineT at h
 unfold validT
 rw [Bool.and_eq_true] at h ⊢
 refine ⟨h.1, ?_⟩
 rw [List.all_eq_true] at h ⊢
 intro c hc
 have := h.2 c hc
 unfold shownB at this
 unfold mayB
 rw [Bool.or_assoc, this, Bool.or_true]
def utf_Line.f (a0 : ByteArray) (a1 : Int) : Option Bool := if a0.size ≤ 17592186044415 then some (lineT a0 && decide (((runesI a0).length : Int) ≤ a1)) else none
theorem shown_eq (x : Int) : utf_shown.f x = some (shownB x) := by
 unfold utf_shown.f utf_span_rune_has.f shownB
 by_cases h4 : x ≥ 32 <;> by_cases h5 : x ≤ 65533 <;> by_cases h6 : x ≥ 65536 <;> by_cases h7 : x ≤ 1114111 <;> simp [*]
theorem count_eq (s : ByteArray) (hs : s.size ≤ 17592186044415) (h : validT s = true) : utf_Count.f s = some ((runesI s).length : Int) := by
 unfold utf_Count.f utf_Runes.f
 rw [if_pos hs, if_pos h]; rfl
set_option maxHeartbeats 4000000 in
set_option maxRecDepth 100000 in
theorem utf_Line.calls (a0 : ByteArray) (a1 : Int) (r : Bool) (w : World) (h : utf_Line.f a0 a1 = some r) (hT : Tabs w) :
  Calls Tryz.prog 18 #[.string a0, .int .i64 a1] w fun e w' => e = .returned (.bool r) ∧ Below w.heap.size w w' := by
 unfold utf_Line.f at h
 split at h
 ·rename_i hs
  obtain rfl := Option.some.inj h
  have hF : IsFn Tryz.prog 36 := ⟨⟨_, Tryz.func36, zz34, rfl⟩⟩
  have H := Aside0.mk (utf_text.hof a0 36 #[] shownB w (by omega) hT hF (fun x W _ _ => utf_shown.calls x _ W (shown_eq x)))
  have HC := Aside0.mk (fun (W : World) (hb : Below w.heap.size w W) (hl : lineT a0 = true) => utf_Count.calls a0 _ W (count_eq a0 hs (line_valid hl)) (tabs_b hT hb))
  clear h hT hs
  cases hl : lineT a0 with
  | false =>
   have H2 : (validD a0.data.toList && (runesI a0).all shownB) = false := hl
   rw [H2] at H
   clear H2 hl HC
   go_enter Tryz.func18, Tryz.ntmps18
   go_wp2_with (go_at_call 35; (with_reducible refine H.out.mono ?_); rintro e w' ⟨rfl, hb⟩; have HB := Aside0.mk hb; clear hb H)
   go_ret
   exact ⟨rfl, HB.out⟩
  | true =>
   have H2 : (validD a0.data.toList && (runesI a0).all shownB) = true := hl
   rw [H2] at H
   have HL := Aside0.mk hl
   clear H2 hl
   go_enter Tryz.func18, Tryz.ntmps18
   go_wp2_with (first | (go_at_call 35; (with_reducible refine H.out.mono ?_); rintro e w1 ⟨rfl, hb⟩; have HB := Aside0.mk hb; clear hb H) | (go_at_call 37; (with_reducible refine (HC.out _ HB.out HL.out).mono ?_); rintro e w2 ⟨rfl, hb⟩; have HB2 := Aside0.mk (below_step HB.out hb); clear hb HB))
   go_ret
   exact ⟨rfl, HB2.out⟩
 cases h
def item_groups.l0 : Nat → List ByteArray → List ByteArray → Int → Int → Option (Bool)
 | 0, _, _, _, _ => none
 | k + 1, x0, x5, x6, x7 => if x7 < x6 then (if 0 ≤ x7 then (if x7 < (x5.length : Int) then (if (rdOf ByteArray.empty x5 x7).toList = ([] : List UInt8) then (some false) else ((utf_Line.f (rdOf ByteArray.empty x5 x7) 100).bind fun t257 => (if t257 = true then (if x7 > 0 then (if 0 ≤ (wrap64 (x7 - 1)) then (if (wrap64 (x7 - 1)) < (x0.length : Int) then (if ((Op.bytesLess ((rdOf ByteArray.empty x0 (wrap64 (x7 - 1))).toList) ((rdOf ByteArray.empty x5 x7).toList)) = true) then (item_groups.l0 k x0 x5 x6 (wrap64 (x7 + 1))) else (some false)) else (none)) else (none)) else (item_groups.l0 k x0 x5 x6 (wrap64 (x7 + 1)))) else (some false)))) else (none)) else (none)) else (some (decide ((x0.length : Int) ≤ 8)))
def item_groups.f (k : Nat) (l0 : List ByteArray) : Option (Bool) := item_groups.l0 k l0 l0 (l0.length : Int) 0
theorem item_groups.mono_l : ∀ k, (∀ y0 y1 y2 y3, LeO (item_groups.l0 k y0 y1 y2 y3) (item_groups.l0 (k + 1) y0 y1 y2 y3))
 | 0 => fun _ _ _ _ r h => by simp [item_groups.l0] at h
 | k + 1 => by
  have ih0 := item_groups.mono_l k
  intro y0 y1 y2 y3
  unfold item_groups.l0
  repeat' first
  | (with_reducible exact ih0 _ _ _ _)
  | (with_reducible exact LeO.refl _)
  | (with_reducible exact LeO.none _)
  | (with_reducible refine LeO.ite ?_ ?_)
  | (with_reducible refine LeO.bind ?_ (fun _ => ?_))
  | exact ih0 _ _ _ _
  | exact LeO.none _
  | refine LeO.ite ?_ ?_
  | refine LeO.bind ?_ (fun _ => ?_)
theorem item_groups.mono : ∀ a0 k, LeO (item_groups.f k a0) (item_groups.f (k + 1) a0) := by
 intro a0 k
 have ih0 := item_groups.mono_l k
 unfold item_groups.f
 repeat' first
   | (with_reducible exact ih0 _ _ _ _)
   | (with_reducible exact LeO.refl _)
   | (with_reducible exact LeO.none _)
   | (with_reducible refine LeO.ite ?_ ?_)
   | (with_reducible refine LeO.bind ?_ (fun _ => ?_))
   | exact ih0 _ _ _ _
   | exact LeO.none _
   | refine LeO.ite ?_ ?_
   | refine LeO.bind ?_ (fun _ => ?_)
set_option maxHeartbeats 8000000 in
set_option maxRecDepth 100000 in
theorem item_groups.calls (k : Nat) (A0 : Option Addr) (c0 : Nat) (l0 : List ByteArray) (r : Bool) (w : World) (hr0 : Kd.C Kd.string w A0 l0.length l0) (hc0 : l0.length ≤ c0) (h : item_groups.f k l0 = some r) (hT : Tabs w) :
  Calls Tryz.prog 19 #[.slice A0 l0.length c0] w fun e w' => e = .returned (.bool r) ∧ Below w.heap.size w w' := by
 have HT := Aside0.mk hT
 clear hT
 have HR0 := Aside0.mk hr0
 have HC0 := Aside0.mk hc0
 clear hr0 hc0
 have HB := Aside0.mk (Below.refl w.heap.size w)
 have H : (item_groups.l0 k l0 l0 (l0.length : Int) 0) = some r := h
 clear h
 have H' := Aside0.mk H
 clear H
 go_enter Tryz.func19, Tryz.ntmps19
 go_wp2
 go_loopg [7] k (fun kq v7 w' => ∃ (x7_1 : Int), v7 = .int .i64 x7_1 ∧ Aside0 (item_groups.l0 kq l0 l0 (l0.length : Int) x7_1 = some r) ∧ Aside0 (kq ≤ k) ∧ Aside0 (Below w.heap.size w w'))
 case atStart => exact ⟨(0), zz1, H', ⟨Nat.le_refl _⟩, ⟨zz0⟩⟩
 case round =>
  clear H'
  try clear c1
  obtain ⟨x7_1, rfl, HA, HK1, HB⟩ := hrel
  cases gk with
  | zero => exact absurd HA.out (by simp [item_groups.l0])
  | succ k1 =>
   have H := HA.out
   clear HA
   simp only [item_groups.l0] at H
   by_cases c2 : x7_1 < (l0.length : Int)
   ·rw [if_pos c2] at H
    have c2b0 := decide_eq_true c2
    clear c2
    by_cases c3 : 0 ≤ x7_1
    ·rw [if_pos c3] at H
     have c3b0 := decide_eq_true c3
     clear c3
     by_cases c4 : x7_1 < (l0.length : Int)
     ·rw [if_pos c4] at H
      have c4b0 := decide_eq_true c4
      clear c4
      by_cases c5 : (rdOf ByteArray.empty l0 x7_1).toList = ([] : List UInt8)
      ·rw [if_pos c5] at H
       obtain ⟨c5b0, c5b1⟩ := eqT c5
       clear c5
       obtain rfl := Option.some.inj H
       have p256 : 0 ≤ (x7_1 : Int) := of_decide_eq_true zz6
       have q256 : x7_1 < (l0.length : Int) := of_decide_eq_true zz6
       obtain ⟨ad256, e256, hx256_0⟩ := Kd.at_string HR0.out x7_1 p256 q256
       cases e256
       replace hx256_0 := hereB HB hx256_0
       replace p256 := eq_true p256
       replace q256 := eq_true q256
       go_wp2
       go_ret
       exact ⟨zz4, zz0⟩
      rw [if_neg c5] at H
      obtain ⟨c5b0, c5b1⟩ := eqF c5
      replace H := Option.bind_eq_some_iff.mp H
      obtain ⟨t257, A60, H⟩ := H
      try dsimp only at H
      have A6 := Aside0.mk A60
      clear A60
      by_cases c7 : t257 = true
      ·subst c7
       have H1 : (if x7_1 > 0 then (if 0 ≤ (wrap64 (x7_1 - 1)) then (if (wrap64 (x7_1 - 1)) < (l0.length : Int) then (if ((Op.bytesLess ((rdOf ByteArray.empty l0 (wrap64 (x7_1 - 1))).toList) ((rdOf ByteArray.empty l0 x7_1).toList)) = true) then (item_groups.l0 k1 l0 l0 (l0.length : Int) (wrap64 (x7_1 + 1))) else (some false)) else (none)) else (none)) else (item_groups.l0 k1 l0 l0 (l0.length : Int) (wrap64 (x7_1 + 1)))) = some r := by rw [if_pos rfl] at H; exact H
       clear H
       have H := H1
       clear H1
       by_cases c8 : x7_1 > 0
       ·rw [if_pos c8] at H
        have c8b0 := decide_eq_true c8
        clear c8
        obtain ⟨ji9, hji9⟩ : ∃ j_ : Int, (wrap64 (x7_1 - 1)) = j_ := ⟨_, rfl⟩
        replace H : (if 0 ≤ (ji9) then (if (ji9) < (l0.length : Int) then (if ((Op.bytesLess ((rdOf ByteArray.empty l0 (ji9)).toList) ((rdOf ByteArray.empty l0 x7_1).toList)) = true) then (item_groups.l0 k1 l0 l0 (l0.length : Int) (wrap64 (x7_1 + 1))) else (some false)) else (none)) else (none)) = some r := by first | (rw [hji9] at H; exact H) | (simp only [hji9] at H ⊢; exact H)
        (try rw [hji9] at A6)
        have hji9w : (IntKind.i64.wrap (x7_1 - 1)) = ji9 := (i64_w _).trans hji9
        by_cases c10 : 0 ≤ (ji9)
        ·rw [if_pos c10] at H
         have c10b0 := decide_eq_true c10
         clear c10
         by_cases c11 : (ji9) < (l0.length : Int)
         ·rw [if_pos c11] at H
          have c11b0 := decide_eq_true c11
          clear c11
          by_cases c12 : ((Op.bytesLess ((rdOf ByteArray.empty l0 (ji9)).toList) ((rdOf ByteArray.empty l0 x7_1).toList)) = true)
          ·rw [if_pos c12] at H
           have c12b0 : (Op.bytesLess ((rdOf ByteArray.empty l0 (ji9)).toList) ((rdOf ByteArray.empty l0 x7_1).toList)) = true := c12
           clear c12
           have H' := Aside0.mk H
           clear H
           have p256 : 0 ≤ (x7_1 : Int) := of_decide_eq_true zz6
           have q256 : x7_1 < (l0.length : Int) := of_decide_eq_true zz6
           obtain ⟨ad256, e256, hx256_0⟩ := Kd.at_string HR0.out x7_1 p256 q256
           cases e256
           replace hx256_0 := hereB HB hx256_0
           replace p256 := eq_true p256
           replace q256 := eq_true q256
           go_wp2_with (first | (go_at_call 18; (with_reducible refine (utf_Line.calls (rdOf ByteArray.empty l0 x7_1) 100 true _ A6.out (tabs_b HT.out zz0)).mono ?_); rintro e w13 ⟨rfl, hb⟩; replace HB := Aside0.mk (below_step zz0 hb); (try clear hb); have p258 : 0 ≤ ((ji9) : Int) := of_decide_eq_true zz6; have q258 : (ji9) < (l0.length : Int) := of_decide_eq_true zz6; obtain ⟨ad258, e258, hx258_0⟩ := Kd.at_string HR0.out (ji9) p258 q258; obtain rfl : ad256 = ad258 := (by injection e258); replace hx258_0 := hereB HB hx258_0; replace p258 := eq_true p258; replace q258 := eq_true q258))
           go_roundg k1
           case measure => have := HK1.out; omega
           case rel => exact ⟨(wrap64 (x7_1 + 1)), zz1, H', ⟨zz58⟩, ⟨zz0⟩⟩
          rw [if_neg c12] at H
          have c12b0 : (Op.bytesLess ((rdOf ByteArray.empty l0 (ji9)).toList) ((rdOf ByteArray.empty l0 x7_1).toList)) = false := by simpa using c12
          clear c12
          obtain rfl := Option.some.inj H
          have p256 : 0 ≤ (x7_1 : Int) := of_decide_eq_true zz6
          have q256 : x7_1 < (l0.length : Int) := of_decide_eq_true zz6
          obtain ⟨ad256, e256, hx256_0⟩ := Kd.at_string HR0.out x7_1 p256 q256
          cases e256
          replace hx256_0 := hereB HB hx256_0
          replace p256 := eq_true p256
          replace q256 := eq_true q256
          go_wp2_with (first | (go_at_call 18; (with_reducible refine (utf_Line.calls (rdOf ByteArray.empty l0 x7_1) 100 true _ A6.out (tabs_b HT.out zz0)).mono ?_); rintro e w14 ⟨rfl, hb⟩; replace HB := Aside0.mk (below_step zz0 hb); (try clear hb); have p258 : 0 ≤ ((ji9) : Int) := of_decide_eq_true zz6; have q258 : (ji9) < (l0.length : Int) := of_decide_eq_true zz6; obtain ⟨ad258, e258, hx258_0⟩ := Kd.at_string HR0.out (ji9) p258 q258; obtain rfl : ad256 = ad258 := (by injection e258); replace hx258_0 := hereB HB hx258_0; replace p258 := eq_true p258; replace q258 := eq_true q258))
          go_ret
          exact ⟨by first | rfl | (simp only [nemp]; rfl) | (simp [errW_none, errW_some] <;> rfl) | (simp only [← hji9]; first | rfl | (simp [errW_none, errW_some] <;> rfl)) | (simp [*, errW_none, errW_some] <;> rfl), zz0⟩
         rw [if_neg c11] at H
         exact absurd H (by simp)
        rw [if_neg c10] at H
        exact absurd H (by simp)
       rw [if_neg c8] at H
       have c8b0 := decide_eq_false c8
       clear c8
       have H' := Aside0.mk H
       clear H
       have p256 : 0 ≤ (x7_1 : Int) := of_decide_eq_true zz6
       have q256 : x7_1 < (l0.length : Int) := of_decide_eq_true zz6
       obtain ⟨ad256, e256, hx256_0⟩ := Kd.at_string HR0.out x7_1 p256 q256
       cases e256
       replace hx256_0 := hereB HB hx256_0
       replace p256 := eq_true p256
       replace q256 := eq_true q256
       go_wp2_with (first | (go_at_call 18; (with_reducible refine (utf_Line.calls (rdOf ByteArray.empty l0 x7_1) 100 true _ A6.out (tabs_b HT.out zz0)).mono ?_); rintro e w15 ⟨rfl, hb⟩; replace HB := Aside0.mk (below_step zz0 hb); (try clear hb)))
       go_roundg k1
       case measure => have := HK1.out; omega
       case rel => exact ⟨(wrap64 (x7_1 + 1)), zz1, H', ⟨zz58⟩, ⟨zz0⟩⟩
      replace c7 := Bool.eq_false_iff.mpr c7
      subst c7
      have H1 : (some false) = some r := by rw [if_neg (show ¬ (false = true) by decide)] at H; exact H
      clear H
      have H := H1
      clear H1
      obtain rfl := Option.some.inj H
      have p256 : 0 ≤ (x7_1 : Int) := of_decide_eq_true zz6
      have q256 : x7_1 < (l0.length : Int) := of_decide_eq_true zz6
      obtain ⟨ad256, e256, hx256_0⟩ := Kd.at_string HR0.out x7_1 p256 q256
      cases e256
      replace hx256_0 := hereB HB hx256_0
      replace p256 := eq_true p256
      replace q256 := eq_true q256
      go_wp2_with (first | (go_at_call 18; (with_reducible refine (utf_Line.calls (rdOf ByteArray.empty l0 x7_1) 100 false _ A6.out (tabs_b HT.out zz0)).mono ?_); rintro e w16 ⟨rfl, hb⟩; replace HB := Aside0.mk (below_step zz0 hb); (try clear hb)))
      go_ret
      exact ⟨zz4, zz0⟩
     rw [if_neg c4] at H
     exact absurd H (by simp)
    rw [if_neg c3] at H
    exact absurd H (by simp)
   rw [if_neg c2] at H
   have c2b0 := decide_eq_false c2
   clear c2
   obtain rfl := Option.some.inj H
   go_wp2
   go_ret
   exact ⟨zz4, zz0⟩
def item_Right.f (k : Nat) (a0_0 a0_1 : ByteArray) (l0_2 : List ByteArray) (a0_3 : Int) (a0_4 a0_5 : Bool) : Option Bool :=
 (jid_Bare.f k a0_0).bind fun b => if b.2 = 0 then (if b.1.toList = a0_0.toList then ((utf_Line.f a0_1 100).bind fun c => if c = true then ((item_groups.f k l0_2).bind fun d => if d = true then some (decide (0 ≤ a0_3) && decide (a0_3 ≤ 3) && !(a0_4 && ((a0_3 == 1) || (a0_3 == 3))) && !(a0_5 && ((a0_3 == 2) || (a0_3 == 3)))) else some false) else some false) else some false) else some false
theorem item_Right.mono : ∀ a0 a1 a2 a3 a4 a5 k, LeO (item_Right.f k a0 a1 a2 a3 a4 a5) (item_Right.f (k + 1) a0 a1 a2 a3 a4 a5) := by
 intro a0 a1 a2 a3 a4 a5 k
 unfold item_Right.f
 repeat' first
   | (with_reducible exact LeO.refl _)
   | (with_reducible exact LeO.none _)
   | exact jid_Bare.mono _ _
   | exact item_groups.mono _ _
   | refine LeO.ite ?_ ?_
   | refine LeO.bind ?_ (fun _ => ?_)
theorem cells6 {w : World} {g : Nat} {t : TypeId} {c0 c1 c2 c3 c4 c5 : Value} (h : w.heap[g]? = some (.cells #[c0, c1, c2, c3, c4, c5] t (0, 0))) : w.cell? ⟨g, 0, none⟩ = some c0 ∧ w.cell? ⟨g, 1, none⟩ = some c1 ∧ w.cell? ⟨g, 2, none⟩ = some c2 ∧ w.cell? ⟨g, 3, none⟩ = some c3 ∧ w.cell? ⟨g, 4, none⟩ = some c4 ∧ w.cell? ⟨g, 5, none⟩ = some c5 := ⟨(blk_cell h 0).trans rfl, (blk_cell h 1).trans rfl, (blk_cell h 2).trans rfl, (blk_cell h 3).trans rfl, (blk_cell h 4).trans rfl, (blk_cell h 5).trans rfl⟩
set_option maxHeartbeats 16000000 in
set_option maxRecDepth 100000 in
theorem item_Right.go (k : Nat) (a0_0 a0_1 : ByteArray) (A0_2 : Option Addr) (c0_2 : Nat) (l0_2 : List ByteArray) (a0_3 : Int) (a0_4 a0_5 : Bool) (b : ByteArray) (e : Int) (w : World) (HR : Aside0 (Kd.C Kd.string w A0_2 l0_2.length l0_2)) (HC : Aside0 (l0_2.length ≤ c0_2)) (HT : Aside0 (Tabs w))
  (A1 : Aside0 (jid_Bare.f k a0_0 = some (b, e))) (q1 q2 k2 k3 : Bool) (d1 : (e == 0) = q1) (d2 : (b.toList == a0_0.toList) = q2) (HA : q1 = true → q2 = true → Aside0 (utf_Line.f a0_1 100 = some k2)) (HG : q1 = true → q2 = true → k2 = true → Aside0 (item_groups.f k l0_2 = some k3))
  (b1 b3 b2 lo hi : Bool) (h1 : (a0_3 == 1) = b1) (h3 : (a0_3 == 3) = b3) (h2 : (a0_3 == 2) = b2) (h4 : decide (0 ≤ a0_3) = lo) (h5 : decide (a0_3 ≤ 3) = hi)
  (hone : (b1, b3, b2, lo, hi) = (true, false, false, true, true) ∨ (b1, b3, b2, lo, hi) = (false, true, false, true, true) ∨ (b1, b3, b2, lo, hi) = (false, false, true, true, true) ∨ (b1, b3, b2, lo, hi) = (false, false, false, true, true) ∨ (b1, b3, b2, lo, hi) = (false, false, false, false, true) ∨ (b1, b3, b2, lo, hi) = (false, false, false, true, false)) :
  Calls Tryz.prog 8 #[.agg #[.string a0_0, .string a0_1, .slice A0_2 l0_2.length c0_2, .int .i64 a0_3, .bool a0_4, .bool a0_5]] w fun e w' => e = .returned (.bool (q1 && q2 && k2 && k3 && lo && hi && !(a0_4 && (b1 || b3)) && !(a0_5 && (b2 || b3)))) ∧ Below w.heap.size w w' := by
 have hu42 := Tryz.underlying24
 rcases hone with hone | hone | hone | hone | hone | hone <;> (simp only [Prod.mk.injEq] at hone; obtain ⟨rfl, rfl, rfl, rfl, rfl⟩ := hone)
 all_goals
  cases q1 with
  | false =>
   go_enter Tryz.func8, Tryz.ntmps8
   go_wp2_with (first | ((with_reducible refine gd 1 ?_); refine bz #[.string a0_0, .string a0_1, .slice A0_2 l0_2.length c0_2, .int .i64 a0_3, .bool a0_4, .bool a0_5] 24 ?_; intro gb hg w1 hbox hb; have HB := Aside0.mk hb; have BK := Aside0.mk hbox; obtain ⟨hc0, hc1, hc2, hc3, hc4, hc5⟩ := cells6 hbox; clear hb hbox hg) | (go_at_call 17; (with_reducible refine (jid_Bare.calls k a0_0 b e _ A1.out (tabs_b HT.out zz0)).mono ?_); rintro e1 w2 ⟨rfl, hb⟩; have n_ := Aside0.mk (below_step zz0 hb); replace BK := Aside0.mk (blk_below zz8 hb); clear HB; have HB := n_; clear n_ hc0 hc1 hc2 hc3 hc4 hc5; obtain ⟨hc0, hc1, hc2, hc3, hc4, hc5⟩ := cells6 BK.out; clear hb) | (go_at_call 18; (with_reducible refine (utf_Line.calls a0_1 100 _ _ (HA (by trivial) (by trivial)).out (tabs_b HT.out zz0)).mono ?_); rintro e1 w3 ⟨rfl, hb⟩; have n_ := Aside0.mk (below_step zz0 hb); replace BK := Aside0.mk (blk_below zz8 hb); clear HB; have HB := n_; clear n_ hc0 hc1 hc2 hc3 hc4 hc5; obtain ⟨hc0, hc1, hc2, hc3, hc4, hc5⟩ := cells6 BK.out; clear hb) | (go_at_call 19; (with_reducible refine (item_groups.calls k _ _ l0_2 _ _ (Kd.C_below HR.out zz0) HC.out (HG (by trivial) (by trivial) (by trivial)).out (tabs_b HT.out zz0)).mono ?_); rintro e1 w4 ⟨rfl, hb⟩; have n_ := Aside0.mk (below_step zz0 hb); replace BK := Aside0.mk (blk_below zz8 hb); clear HB; have HB := n_; clear n_ hc0 hc1 hc2 hc3 hc4 hc5; obtain ⟨hc0, hc1, hc2, hc3, hc4, hc5⟩ := cells6 BK.out; clear hb))
   repeat (go_quiet (fail); try go_wp2_with (first | ((with_reducible refine gd 1 ?_); refine bz #[.string a0_0, .string a0_1, .slice A0_2 l0_2.length c0_2, .int .i64 a0_3, .bool a0_4, .bool a0_5] 24 ?_; intro gb hg w1 hbox hb; have HB := Aside0.mk hb; have BK := Aside0.mk hbox; obtain ⟨hc0, hc1, hc2, hc3, hc4, hc5⟩ := cells6 hbox; clear hb hbox hg) | (go_at_call 17; (with_reducible refine (jid_Bare.calls k a0_0 b e _ A1.out (tabs_b HT.out zz0)).mono ?_); rintro e1 w2 ⟨rfl, hb⟩; have n_ := Aside0.mk (below_step zz0 hb); replace BK := Aside0.mk (blk_below zz8 hb); clear HB; have HB := n_; clear n_ hc0 hc1 hc2 hc3 hc4 hc5; obtain ⟨hc0, hc1, hc2, hc3, hc4, hc5⟩ := cells6 BK.out; clear hb) | (go_at_call 18; (with_reducible refine (utf_Line.calls a0_1 100 _ _ (HA (by trivial) (by trivial)).out (tabs_b HT.out zz0)).mono ?_); rintro e1 w3 ⟨rfl, hb⟩; have n_ := Aside0.mk (below_step zz0 hb); replace BK := Aside0.mk (blk_below zz8 hb); clear HB; have HB := n_; clear n_ hc0 hc1 hc2 hc3 hc4 hc5; obtain ⟨hc0, hc1, hc2, hc3, hc4, hc5⟩ := cells6 BK.out; clear hb) | (go_at_call 19; (with_reducible refine (item_groups.calls k _ _ l0_2 _ _ (Kd.C_below HR.out zz0) HC.out (HG (by trivial) (by trivial) (by trivial)).out (tabs_b HT.out zz0)).mono ?_); rintro e1 w4 ⟨rfl, hb⟩; have n_ := Aside0.mk (below_step zz0 hb); replace BK := Aside0.mk (blk_below zz8 hb); clear HB; have HB := n_; clear n_ hc0 hc1 hc2 hc3 hc4 hc5; obtain ⟨hc0, hc1, hc2, hc3, hc4, hc5⟩ := cells6 BK.out; clear hb)))
   go_ret
   exact ⟨rfl, zz0⟩
  | true =>
  cases q2 with
  | false =>
   go_enter Tryz.func8, Tryz.ntmps8
   go_wp2_with (first | ((with_reducible refine gd 1 ?_); refine bz #[.string a0_0, .string a0_1, .slice A0_2 l0_2.length c0_2, .int .i64 a0_3, .bool a0_4, .bool a0_5] 24 ?_; intro gb hg w1 hbox hb; have HB := Aside0.mk hb; have BK := Aside0.mk hbox; obtain ⟨hc0, hc1, hc2, hc3, hc4, hc5⟩ := cells6 hbox; clear hb hbox hg) | (go_at_call 17; (with_reducible refine (jid_Bare.calls k a0_0 b e _ A1.out (tabs_b HT.out zz0)).mono ?_); rintro e1 w2 ⟨rfl, hb⟩; have n_ := Aside0.mk (below_step zz0 hb); replace BK := Aside0.mk (blk_below zz8 hb); clear HB; have HB := n_; clear n_ hc0 hc1 hc2 hc3 hc4 hc5; obtain ⟨hc0, hc1, hc2, hc3, hc4, hc5⟩ := cells6 BK.out; clear hb) | (go_at_call 18; (with_reducible refine (utf_Line.calls a0_1 100 _ _ (HA (by trivial) (by trivial)).out (tabs_b HT.out zz0)).mono ?_); rintro e1 w3 ⟨rfl, hb⟩; have n_ := Aside0.mk (below_step zz0 hb); replace BK := Aside0.mk (blk_below zz8 hb); clear HB; have HB := n_; clear n_ hc0 hc1 hc2 hc3 hc4 hc5; obtain ⟨hc0, hc1, hc2, hc3, hc4, hc5⟩ := cells6 BK.out; clear hb) | (go_at_call 19; (with_reducible refine (item_groups.calls k _ _ l0_2 _ _ (Kd.C_below HR.out zz0) HC.out (HG (by trivial) (by trivial) (by trivial)).out (tabs_b HT.out zz0)).mono ?_); rintro e1 w4 ⟨rfl, hb⟩; have n_ := Aside0.mk (below_step zz0 hb); replace BK := Aside0.mk (blk_below zz8 hb); clear HB; have HB := n_; clear n_ hc0 hc1 hc2 hc3 hc4 hc5; obtain ⟨hc0, hc1, hc2, hc3, hc4, hc5⟩ := cells6 BK.out; clear hb))
   repeat (go_quiet (fail); try go_wp2_with (first | ((with_reducible refine gd 1 ?_); refine bz #[.string a0_0, .string a0_1, .slice A0_2 l0_2.length c0_2, .int .i64 a0_3, .bool a0_4, .bool a0_5] 24 ?_; intro gb hg w1 hbox hb; have HB := Aside0.mk hb; have BK := Aside0.mk hbox; obtain ⟨hc0, hc1, hc2, hc3, hc4, hc5⟩ := cells6 hbox; clear hb hbox hg) | (go_at_call 17; (with_reducible refine (jid_Bare.calls k a0_0 b e _ A1.out (tabs_b HT.out zz0)).mono ?_); rintro e1 w2 ⟨rfl, hb⟩; have n_ := Aside0.mk (below_step zz0 hb); replace BK := Aside0.mk (blk_below zz8 hb); clear HB; have HB := n_; clear n_ hc0 hc1 hc2 hc3 hc4 hc5; obtain ⟨hc0, hc1, hc2, hc3, hc4, hc5⟩ := cells6 BK.out; clear hb) | (go_at_call 18; (with_reducible refine (utf_Line.calls a0_1 100 _ _ (HA (by trivial) (by trivial)).out (tabs_b HT.out zz0)).mono ?_); rintro e1 w3 ⟨rfl, hb⟩; have n_ := Aside0.mk (below_step zz0 hb); replace BK := Aside0.mk (blk_below zz8 hb); clear HB; have HB := n_; clear n_ hc0 hc1 hc2 hc3 hc4 hc5; obtain ⟨hc0, hc1, hc2, hc3, hc4, hc5⟩ := cells6 BK.out; clear hb) | (go_at_call 19; (with_reducible refine (item_groups.calls k _ _ l0_2 _ _ (Kd.C_below HR.out zz0) HC.out (HG (by trivial) (by trivial) (by trivial)).out (tabs_b HT.out zz0)).mono ?_); rintro e1 w4 ⟨rfl, hb⟩; have n_ := Aside0.mk (below_step zz0 hb); replace BK := Aside0.mk (blk_below zz8 hb); clear HB; have HB := n_; clear n_ hc0 hc1 hc2 hc3 hc4 hc5; obtain ⟨hc0, hc1, hc2, hc3, hc4, hc5⟩ := cells6 BK.out; clear hb)))
   go_ret
   exact ⟨rfl, zz0⟩
  | true =>
  cases k2 with
  | false =>
   go_enter Tryz.func8, Tryz.ntmps8
   go_wp2_with (first | ((with_reducible refine gd 1 ?_); refine bz #[.string a0_0, .string a0_1, .slice A0_2 l0_2.length c0_2, .int .i64 a0_3, .bool a0_4, .bool a0_5] 24 ?_; intro gb hg w1 hbox hb; have HB := Aside0.mk hb; have BK := Aside0.mk hbox; obtain ⟨hc0, hc1, hc2, hc3, hc4, hc5⟩ := cells6 hbox; clear hb hbox hg) | (go_at_call 17; (with_reducible refine (jid_Bare.calls k a0_0 b e _ A1.out (tabs_b HT.out zz0)).mono ?_); rintro e1 w2 ⟨rfl, hb⟩; have n_ := Aside0.mk (below_step zz0 hb); replace BK := Aside0.mk (blk_below zz8 hb); clear HB; have HB := n_; clear n_ hc0 hc1 hc2 hc3 hc4 hc5; obtain ⟨hc0, hc1, hc2, hc3, hc4, hc5⟩ := cells6 BK.out; clear hb) | (go_at_call 18; (with_reducible refine (utf_Line.calls a0_1 100 _ _ (HA (by trivial) (by trivial)).out (tabs_b HT.out zz0)).mono ?_); rintro e1 w3 ⟨rfl, hb⟩; have n_ := Aside0.mk (below_step zz0 hb); replace BK := Aside0.mk (blk_below zz8 hb); clear HB; have HB := n_; clear n_ hc0 hc1 hc2 hc3 hc4 hc5; obtain ⟨hc0, hc1, hc2, hc3, hc4, hc5⟩ := cells6 BK.out; clear hb) | (go_at_call 19; (with_reducible refine (item_groups.calls k _ _ l0_2 _ _ (Kd.C_below HR.out zz0) HC.out (HG (by trivial) (by trivial) (by trivial)).out (tabs_b HT.out zz0)).mono ?_); rintro e1 w4 ⟨rfl, hb⟩; have n_ := Aside0.mk (below_step zz0 hb); replace BK := Aside0.mk (blk_below zz8 hb); clear HB; have HB := n_; clear n_ hc0 hc1 hc2 hc3 hc4 hc5; obtain ⟨hc0, hc1, hc2, hc3, hc4, hc5⟩ := cells6 BK.out; clear hb))
   repeat (go_quiet (fail); try go_wp2_with (first | ((with_reducible refine gd 1 ?_); refine bz #[.string a0_0, .string a0_1, .slice A0_2 l0_2.length c0_2, .int .i64 a0_3, .bool a0_4, .bool a0_5] 24 ?_; intro gb hg w1 hbox hb; have HB := Aside0.mk hb; have BK := Aside0.mk hbox; obtain ⟨hc0, hc1, hc2, hc3, hc4, hc5⟩ := cells6 hbox; clear hb hbox hg) | (go_at_call 17; (with_reducible refine (jid_Bare.calls k a0_0 b e _ A1.out (tabs_b HT.out zz0)).mono ?_); rintro e1 w2 ⟨rfl, hb⟩; have n_ := Aside0.mk (below_step zz0 hb); replace BK := Aside0.mk (blk_below zz8 hb); clear HB; have HB := n_; clear n_ hc0 hc1 hc2 hc3 hc4 hc5; obtain ⟨hc0, hc1, hc2, hc3, hc4, hc5⟩ := cells6 BK.out; clear hb) | (go_at_call 18; (with_reducible refine (utf_Line.calls a0_1 100 _ _ (HA (by trivial) (by trivial)).out (tabs_b HT.out zz0)).mono ?_); rintro e1 w3 ⟨rfl, hb⟩; have n_ := Aside0.mk (below_step zz0 hb); replace BK := Aside0.mk (blk_below zz8 hb); clear HB; have HB := n_; clear n_ hc0 hc1 hc2 hc3 hc4 hc5; obtain ⟨hc0, hc1, hc2, hc3, hc4, hc5⟩ := cells6 BK.out; clear hb) | (go_at_call 19; (with_reducible refine (item_groups.calls k _ _ l0_2 _ _ (Kd.C_below HR.out zz0) HC.out (HG (by trivial) (by trivial) (by trivial)).out (tabs_b HT.out zz0)).mono ?_); rintro e1 w4 ⟨rfl, hb⟩; have n_ := Aside0.mk (below_step zz0 hb); replace BK := Aside0.mk (blk_below zz8 hb); clear HB; have HB := n_; clear n_ hc0 hc1 hc2 hc3 hc4 hc5; obtain ⟨hc0, hc1, hc2, hc3, hc4, hc5⟩ := cells6 BK.out; clear hb)))
   go_ret
   exact ⟨rfl, zz0⟩
  | true =>
  cases k3 with
  | false =>
   go_enter Tryz.func8, Tryz.ntmps8
   go_wp2_with (first | ((with_reducible refine gd 1 ?_); refine bz #[.string a0_0, .string a0_1, .slice A0_2 l0_2.length c0_2, .int .i64 a0_3, .bool a0_4, .bool a0_5] 24 ?_; intro gb hg w1 hbox hb; have HB := Aside0.mk hb; have BK := Aside0.mk hbox; obtain ⟨hc0, hc1, hc2, hc3, hc4, hc5⟩ := cells6 hbox; clear hb hbox hg) | (go_at_call 17; (with_reducible refine (jid_Bare.calls k a0_0 b e _ A1.out (tabs_b HT.out zz0)).mono ?_); rintro e1 w2 ⟨rfl, hb⟩; have n_ := Aside0.mk (below_step zz0 hb); replace BK := Aside0.mk (blk_below zz8 hb); clear HB; have HB := n_; clear n_ hc0 hc1 hc2 hc3 hc4 hc5; obtain ⟨hc0, hc1, hc2, hc3, hc4, hc5⟩ := cells6 BK.out; clear hb) | (go_at_call 18; (with_reducible refine (utf_Line.calls a0_1 100 _ _ (HA (by trivial) (by trivial)).out (tabs_b HT.out zz0)).mono ?_); rintro e1 w3 ⟨rfl, hb⟩; have n_ := Aside0.mk (below_step zz0 hb); replace BK := Aside0.mk (blk_below zz8 hb); clear HB; have HB := n_; clear n_ hc0 hc1 hc2 hc3 hc4 hc5; obtain ⟨hc0, hc1, hc2, hc3, hc4, hc5⟩ := cells6 BK.out; clear hb) | (go_at_call 19; (with_reducible refine (item_groups.calls k _ _ l0_2 _ _ (Kd.C_below HR.out zz0) HC.out (HG (by trivial) (by trivial) (by trivial)).out (tabs_b HT.out zz0)).mono ?_); rintro e1 w4 ⟨rfl, hb⟩; have n_ := Aside0.mk (below_step zz0 hb); replace BK := Aside0.mk (blk_below zz8 hb); clear HB; have HB := n_; clear n_ hc0 hc1 hc2 hc3 hc4 hc5; obtain ⟨hc0, hc1, hc2, hc3, hc4, hc5⟩ := cells6 BK.out; clear hb))
   repeat (go_quiet (fail); try go_wp2_with (first | ((with_reducible refine gd 1 ?_); refine bz #[.string a0_0, .string a0_1, .slice A0_2 l0_2.length c0_2, .int .i64 a0_3, .bool a0_4, .bool a0_5] 24 ?_; intro gb hg w1 hbox hb; have HB := Aside0.mk hb; have BK := Aside0.mk hbox; obtain ⟨hc0, hc1, hc2, hc3, hc4, hc5⟩ := cells6 hbox; clear hb hbox hg) | (go_at_call 17; (with_reducible refine (jid_Bare.calls k a0_0 b e _ A1.out (tabs_b HT.out zz0)).mono ?_); rintro e1 w2 ⟨rfl, hb⟩; have n_ := Aside0.mk (below_step zz0 hb); replace BK := Aside0.mk (blk_below zz8 hb); clear HB; have HB := n_; clear n_ hc0 hc1 hc2 hc3 hc4 hc5; obtain ⟨hc0, hc1, hc2, hc3, hc4, hc5⟩ := cells6 BK.out; clear hb) | (go_at_call 18; (with_reducible refine (utf_Line.calls a0_1 100 _ _ (HA (by trivial) (by trivial)).out (tabs_b HT.out zz0)).mono ?_); rintro e1 w3 ⟨rfl, hb⟩; have n_ := Aside0.mk (below_step zz0 hb); replace BK := Aside0.mk (blk_below zz8 hb); clear HB; have HB := n_; clear n_ hc0 hc1 hc2 hc3 hc4 hc5; obtain ⟨hc0, hc1, hc2, hc3, hc4, hc5⟩ := cells6 BK.out; clear hb) | (go_at_call 19; (with_reducible refine (item_groups.calls k _ _ l0_2 _ _ (Kd.C_below HR.out zz0) HC.out (HG (by trivial) (by trivial) (by trivial)).out (tabs_b HT.out zz0)).mono ?_); rintro e1 w4 ⟨rfl, hb⟩; have n_ := Aside0.mk (below_step zz0 hb); replace BK := Aside0.mk (blk_below zz8 hb); clear HB; have HB := n_; clear n_ hc0 hc1 hc2 hc3 hc4 hc5; obtain ⟨hc0, hc1, hc2, hc3, hc4, hc5⟩ := cells6 BK.out; clear hb)))
   go_ret
   exact ⟨rfl, zz0⟩
  | true =>
   cases a0_4 <;> cases a0_5
   ·go_enter Tryz.func8, Tryz.ntmps8
    go_wp2_with (first | ((with_reducible refine gd 1 ?_); refine bz #[.string a0_0, .string a0_1, .slice A0_2 l0_2.length c0_2, .int .i64 a0_3, .bool false, .bool false] 24 ?_; intro gb hg w1 hbox hb; have HB := Aside0.mk hb; have BK := Aside0.mk hbox; obtain ⟨hc0, hc1, hc2, hc3, hc4, hc5⟩ := cells6 hbox; clear hb hbox hg) | (go_at_call 17; (with_reducible refine (jid_Bare.calls k a0_0 b e _ A1.out (tabs_b HT.out zz0)).mono ?_); rintro e1 w2 ⟨rfl, hb⟩; have n_ := Aside0.mk (below_step zz0 hb); replace BK := Aside0.mk (blk_below zz8 hb); clear HB; have HB := n_; clear n_ hc0 hc1 hc2 hc3 hc4 hc5; obtain ⟨hc0, hc1, hc2, hc3, hc4, hc5⟩ := cells6 BK.out; clear hb) | (go_at_call 18; (with_reducible refine (utf_Line.calls a0_1 100 _ _ (HA (by trivial) (by trivial)).out (tabs_b HT.out zz0)).mono ?_); rintro e1 w3 ⟨rfl, hb⟩; have n_ := Aside0.mk (below_step zz0 hb); replace BK := Aside0.mk (blk_below zz8 hb); clear HB; have HB := n_; clear n_ hc0 hc1 hc2 hc3 hc4 hc5; obtain ⟨hc0, hc1, hc2, hc3, hc4, hc5⟩ := cells6 BK.out; clear hb) | (go_at_call 19; (with_reducible refine (item_groups.calls k _ _ l0_2 _ _ (Kd.C_below HR.out zz0) HC.out (HG (by trivial) (by trivial) (by trivial)).out (tabs_b HT.out zz0)).mono ?_); rintro e1 w4 ⟨rfl, hb⟩; have n_ := Aside0.mk (below_step zz0 hb); replace BK := Aside0.mk (blk_below zz8 hb); clear HB; have HB := n_; clear n_ hc0 hc1 hc2 hc3 hc4 hc5; obtain ⟨hc0, hc1, hc2, hc3, hc4, hc5⟩ := cells6 BK.out; clear hb))
    repeat (go_quiet (fail); try go_wp2_with (first | ((with_reducible refine gd 1 ?_); refine bz #[.string a0_0, .string a0_1, .slice A0_2 l0_2.length c0_2, .int .i64 a0_3, .bool false, .bool false] 24 ?_; intro gb hg w1 hbox hb; have HB := Aside0.mk hb; have BK := Aside0.mk hbox; obtain ⟨hc0, hc1, hc2, hc3, hc4, hc5⟩ := cells6 hbox; clear hb hbox hg) | (go_at_call 17; (with_reducible refine (jid_Bare.calls k a0_0 b e _ A1.out (tabs_b HT.out zz0)).mono ?_); rintro e1 w2 ⟨rfl, hb⟩; have n_ := Aside0.mk (below_step zz0 hb); replace BK := Aside0.mk (blk_below zz8 hb); clear HB; have HB := n_; clear n_ hc0 hc1 hc2 hc3 hc4 hc5; obtain ⟨hc0, hc1, hc2, hc3, hc4, hc5⟩ := cells6 BK.out; clear hb) | (go_at_call 18; (with_reducible refine (utf_Line.calls a0_1 100 _ _ (HA (by trivial) (by trivial)).out (tabs_b HT.out zz0)).mono ?_); rintro e1 w3 ⟨rfl, hb⟩; have n_ := Aside0.mk (below_step zz0 hb); replace BK := Aside0.mk (blk_below zz8 hb); clear HB; have HB := n_; clear n_ hc0 hc1 hc2 hc3 hc4 hc5; obtain ⟨hc0, hc1, hc2, hc3, hc4, hc5⟩ := cells6 BK.out; clear hb) | (go_at_call 19; (with_reducible refine (item_groups.calls k _ _ l0_2 _ _ (Kd.C_below HR.out zz0) HC.out (HG (by trivial) (by trivial) (by trivial)).out (tabs_b HT.out zz0)).mono ?_); rintro e1 w4 ⟨rfl, hb⟩; have n_ := Aside0.mk (below_step zz0 hb); replace BK := Aside0.mk (blk_below zz8 hb); clear HB; have HB := n_; clear n_ hc0 hc1 hc2 hc3 hc4 hc5; obtain ⟨hc0, hc1, hc2, hc3, hc4, hc5⟩ := cells6 BK.out; clear hb)))
    go_ret
    exact ⟨rfl, zz0⟩
   ·go_enter Tryz.func8, Tryz.ntmps8
    go_wp2_with (first | ((with_reducible refine gd 1 ?_); refine bz #[.string a0_0, .string a0_1, .slice A0_2 l0_2.length c0_2, .int .i64 a0_3, .bool false, .bool true] 24 ?_; intro gb hg w1 hbox hb; have HB := Aside0.mk hb; have BK := Aside0.mk hbox; obtain ⟨hc0, hc1, hc2, hc3, hc4, hc5⟩ := cells6 hbox; clear hb hbox hg) | (go_at_call 17; (with_reducible refine (jid_Bare.calls k a0_0 b e _ A1.out (tabs_b HT.out zz0)).mono ?_); rintro e1 w2 ⟨rfl, hb⟩; have n_ := Aside0.mk (below_step zz0 hb); replace BK := Aside0.mk (blk_below zz8 hb); clear HB; have HB := n_; clear n_ hc0 hc1 hc2 hc3 hc4 hc5; obtain ⟨hc0, hc1, hc2, hc3, hc4, hc5⟩ := cells6 BK.out; clear hb) | (go_at_call 18; (with_reducible refine (utf_Line.calls a0_1 100 _ _ (HA (by trivial) (by trivial)).out (tabs_b HT.out zz0)).mono ?_); rintro e1 w3 ⟨rfl, hb⟩; have n_ := Aside0.mk (below_step zz0 hb); replace BK := Aside0.mk (blk_below zz8 hb); clear HB; have HB := n_; clear n_ hc0 hc1 hc2 hc3 hc4 hc5; obtain ⟨hc0, hc1, hc2, hc3, hc4, hc5⟩ := cells6 BK.out; clear hb) | (go_at_call 19; (with_reducible refine (item_groups.calls k _ _ l0_2 _ _ (Kd.C_below HR.out zz0) HC.out (HG (by trivial) (by trivial) (by trivial)).out (tabs_b HT.out zz0)).mono ?_); rintro e1 w4 ⟨rfl, hb⟩; have n_ := Aside0.mk (below_step zz0 hb); replace BK := Aside0.mk (blk_below zz8 hb); clear HB; have HB := n_; clear n_ hc0 hc1 hc2 hc3 hc4 hc5; obtain ⟨hc0, hc1, hc2, hc3, hc4, hc5⟩ := cells6 BK.out; clear hb))
    repeat (go_quiet (fail); try go_wp2_with (first | ((with_reducible refine gd 1 ?_); refine bz #[.string a0_0, .string a0_1, .slice A0_2 l0_2.length c0_2, .int .i64 a0_3, .bool false, .bool true] 24 ?_; intro gb hg w1 hbox hb; have HB := Aside0.mk hb; have BK := Aside0.mk hbox; obtain ⟨hc0, hc1, hc2, hc3, hc4, hc5⟩ := cells6 hbox; clear hb hbox hg) | (go_at_call 17; (with_reducible refine (jid_Bare.calls k a0_0 b e _ A1.out (tabs_b HT.out zz0)).mono ?_); rintro e1 w2 ⟨rfl, hb⟩; have n_ := Aside0.mk (below_step zz0 hb); replace BK := Aside0.mk (blk_below zz8 hb); clear HB; have HB := n_; clear n_ hc0 hc1 hc2 hc3 hc4 hc5; obtain ⟨hc0, hc1, hc2, hc3, hc4, hc5⟩ := cells6 BK.out; clear hb) | (go_at_call 18; (with_reducible refine (utf_Line.calls a0_1 100 _ _ (HA (by trivial) (by trivial)).out (tabs_b HT.out zz0)).mono ?_); rintro e1 w3 ⟨rfl, hb⟩; have n_ := Aside0.mk (below_step zz0 hb); replace BK := Aside0.mk (blk_below zz8 hb); clear HB; have HB := n_; clear n_ hc0 hc1 hc2 hc3 hc4 hc5; obtain ⟨hc0, hc1, hc2, hc3, hc4, hc5⟩ := cells6 BK.out; clear hb) | (go_at_call 19; (with_reducible refine (item_groups.calls k _ _ l0_2 _ _ (Kd.C_below HR.out zz0) HC.out (HG (by trivial) (by trivial) (by trivial)).out (tabs_b HT.out zz0)).mono ?_); rintro e1 w4 ⟨rfl, hb⟩; have n_ := Aside0.mk (below_step zz0 hb); replace BK := Aside0.mk (blk_below zz8 hb); clear HB; have HB := n_; clear n_ hc0 hc1 hc2 hc3 hc4 hc5; obtain ⟨hc0, hc1, hc2, hc3, hc4, hc5⟩ := cells6 BK.out; clear hb)))
    go_ret
    exact ⟨rfl, zz0⟩
   ·go_enter Tryz.func8, Tryz.ntmps8
    go_wp2_with (first | ((with_reducible refine gd 1 ?_); refine bz #[.string a0_0, .string a0_1, .slice A0_2 l0_2.length c0_2, .int .i64 a0_3, .bool true, .bool false] 24 ?_; intro gb hg w1 hbox hb; have HB := Aside0.mk hb; have BK := Aside0.mk hbox; obtain ⟨hc0, hc1, hc2, hc3, hc4, hc5⟩ := cells6 hbox; clear hb hbox hg) | (go_at_call 17; (with_reducible refine (jid_Bare.calls k a0_0 b e _ A1.out (tabs_b HT.out zz0)).mono ?_); rintro e1 w2 ⟨rfl, hb⟩; have n_ := Aside0.mk (below_step zz0 hb); replace BK := Aside0.mk (blk_below zz8 hb); clear HB; have HB := n_; clear n_ hc0 hc1 hc2 hc3 hc4 hc5; obtain ⟨hc0, hc1, hc2, hc3, hc4, hc5⟩ := cells6 BK.out; clear hb) | (go_at_call 18; (with_reducible refine (utf_Line.calls a0_1 100 _ _ (HA (by trivial) (by trivial)).out (tabs_b HT.out zz0)).mono ?_); rintro e1 w3 ⟨rfl, hb⟩; have n_ := Aside0.mk (below_step zz0 hb); replace BK := Aside0.mk (blk_below zz8 hb); clear HB; have HB := n_; clear n_ hc0 hc1 hc2 hc3 hc4 hc5; obtain ⟨hc0, hc1, hc2, hc3, hc4, hc5⟩ := cells6 BK.out; clear hb) | (go_at_call 19; (with_reducible refine (item_groups.calls k _ _ l0_2 _ _ (Kd.C_below HR.out zz0) HC.out (HG (by trivial) (by trivial) (by trivial)).out (tabs_b HT.out zz0)).mono ?_); rintro e1 w4 ⟨rfl, hb⟩; have n_ := Aside0.mk (below_step zz0 hb); replace BK := Aside0.mk (blk_below zz8 hb); clear HB; have HB := n_; clear n_ hc0 hc1 hc2 hc3 hc4 hc5; obtain ⟨hc0, hc1, hc2, hc3, hc4, hc5⟩ := cells6 BK.out; clear hb))
    repeat (go_quiet (fail); try go_wp2_with (first | ((with_reducible refine gd 1 ?_); refine bz #[.string a0_0, .string a0_1, .slice A0_2 l0_2.length c0_2, .int .i64 a0_3, .bool true, .bool false] 24 ?_; intro gb hg w1 hbox hb; have HB := Aside0.mk hb; have BK := Aside0.mk hbox; obtain ⟨hc0, hc1, hc2, hc3, hc4, hc5⟩ := cells6 hbox; clear hb hbox hg) | (go_at_call 17; (with_reducible refine (jid_Bare.calls k a0_0 b e _ A1.out (tabs_b HT.out zz0)).mono ?_); rintro e1 w2 ⟨rfl, hb⟩; have n_ := Aside0.mk (below_step zz0 hb); replace BK := Aside0.mk (blk_below zz8 hb); clear HB; have HB := n_; clear n_ hc0 hc1 hc2 hc3 hc4 hc5; obtain ⟨hc0, hc1, hc2, hc3, hc4, hc5⟩ := cells6 BK.out; clear hb) | (go_at_call 18; (with_reducible refine (utf_Line.calls a0_1 100 _ _ (HA (by trivial) (by trivial)).out (tabs_b HT.out zz0)).mono ?_); rintro e1 w3 ⟨rfl, hb⟩; have n_ := Aside0.mk (below_step zz0 hb); replace BK := Aside0.mk (blk_below zz8 hb); clear HB; have HB := n_; clear n_ hc0 hc1 hc2 hc3 hc4 hc5; obtain ⟨hc0, hc1, hc2, hc3, hc4, hc5⟩ := cells6 BK.out; clear hb) | (go_at_call 19; (with_reducible refine (item_groups.calls k _ _ l0_2 _ _ (Kd.C_below HR.out zz0) HC.out (HG (by trivial) (by trivial) (by trivial)).out (tabs_b HT.out zz0)).mono ?_); rintro e1 w4 ⟨rfl, hb⟩; have n_ := Aside0.mk (below_step zz0 hb); replace BK := Aside0.mk (blk_below zz8 hb); clear HB; have HB := n_; clear n_ hc0 hc1 hc2 hc3 hc4 hc5; obtain ⟨hc0, hc1, hc2, hc3, hc4, hc5⟩ := cells6 BK.out; clear hb)))
    go_ret
    exact ⟨rfl, zz0⟩
   go_enter Tryz.func8, Tryz.ntmps8
   go_wp2_with (first | ((with_reducible refine gd 1 ?_); refine bz #[.string a0_0, .string a0_1, .slice A0_2 l0_2.length c0_2, .int .i64 a0_3, .bool true, .bool true] 24 ?_; intro gb hg w1 hbox hb; have HB := Aside0.mk hb; have BK := Aside0.mk hbox; obtain ⟨hc0, hc1, hc2, hc3, hc4, hc5⟩ := cells6 hbox; clear hb hbox hg) | (go_at_call 17; (with_reducible refine (jid_Bare.calls k a0_0 b e _ A1.out (tabs_b HT.out zz0)).mono ?_); rintro e1 w2 ⟨rfl, hb⟩; have n_ := Aside0.mk (below_step zz0 hb); replace BK := Aside0.mk (blk_below zz8 hb); clear HB; have HB := n_; clear n_ hc0 hc1 hc2 hc3 hc4 hc5; obtain ⟨hc0, hc1, hc2, hc3, hc4, hc5⟩ := cells6 BK.out; clear hb) | (go_at_call 18; (with_reducible refine (utf_Line.calls a0_1 100 _ _ (HA (by trivial) (by trivial)).out (tabs_b HT.out zz0)).mono ?_); rintro e1 w3 ⟨rfl, hb⟩; have n_ := Aside0.mk (below_step zz0 hb); replace BK := Aside0.mk (blk_below zz8 hb); clear HB; have HB := n_; clear n_ hc0 hc1 hc2 hc3 hc4 hc5; obtain ⟨hc0, hc1, hc2, hc3, hc4, hc5⟩ := cells6 BK.out; clear hb) | (go_at_call 19; (with_reducible refine (item_groups.calls k _ _ l0_2 _ _ (Kd.C_below HR.out zz0) HC.out (HG (by trivial) (by trivial) (by trivial)).out (tabs_b HT.out zz0)).mono ?_); rintro e1 w4 ⟨rfl, hb⟩; have n_ := Aside0.mk (below_step zz0 hb); replace BK := Aside0.mk (blk_below zz8 hb); clear HB; have HB := n_; clear n_ hc0 hc1 hc2 hc3 hc4 hc5; obtain ⟨hc0, hc1, hc2, hc3, hc4, hc5⟩ := cells6 BK.out; clear hb))
   repeat (go_quiet (fail); try go_wp2_with (first | ((with_reducible refine gd 1 ?_); refine bz #[.string a0_0, .string a0_1, .slice A0_2 l0_2.length c0_2, .int .i64 a0_3, .bool true, .bool true] 24 ?_; intro gb hg w1 hbox hb; have HB := Aside0.mk hb; have BK := Aside0.mk hbox; obtain ⟨hc0, hc1, hc2, hc3, hc4, hc5⟩ := cells6 hbox; clear hb hbox hg) | (go_at_call 17; (with_reducible refine (jid_Bare.calls k a0_0 b e _ A1.out (tabs_b HT.out zz0)).mono ?_); rintro e1 w2 ⟨rfl, hb⟩; have n_ := Aside0.mk (below_step zz0 hb); replace BK := Aside0.mk (blk_below zz8 hb); clear HB; have HB := n_; clear n_ hc0 hc1 hc2 hc3 hc4 hc5; obtain ⟨hc0, hc1, hc2, hc3, hc4, hc5⟩ := cells6 BK.out; clear hb) | (go_at_call 18; (with_reducible refine (utf_Line.calls a0_1 100 _ _ (HA (by trivial) (by trivial)).out (tabs_b HT.out zz0)).mono ?_); rintro e1 w3 ⟨rfl, hb⟩; have n_ := Aside0.mk (below_step zz0 hb); replace BK := Aside0.mk (blk_below zz8 hb); clear HB; have HB := n_; clear n_ hc0 hc1 hc2 hc3 hc4 hc5; obtain ⟨hc0, hc1, hc2, hc3, hc4, hc5⟩ := cells6 BK.out; clear hb) | (go_at_call 19; (with_reducible refine (item_groups.calls k _ _ l0_2 _ _ (Kd.C_below HR.out zz0) HC.out (HG (by trivial) (by trivial) (by trivial)).out (tabs_b HT.out zz0)).mono ?_); rintro e1 w4 ⟨rfl, hb⟩; have n_ := Aside0.mk (below_step zz0 hb); replace BK := Aside0.mk (blk_below zz8 hb); clear HB; have HB := n_; clear n_ hc0 hc1 hc2 hc3 hc4 hc5; obtain ⟨hc0, hc1, hc2, hc3, hc4, hc5⟩ := cells6 BK.out; clear hb)))
   go_ret
   exact ⟨rfl, zz0⟩
set_option maxHeartbeats 4000000 in
set_option maxRecDepth 100000 in
theorem item_Right.calls (k : Nat) (a0_0 : ByteArray) (a0_1 : ByteArray) (A0_2 : Option Addr) (c0_2 : Nat) (l0_2 : List ByteArray) (a0_3 : Int) (a0_4 : Bool) (a0_5 : Bool) (r : Bool) (w : World) (hr0_2 : Kd.C Kd.string w A0_2 l0_2.length l0_2) (hc0_2 : l0_2.length ≤ c0_2) (h : item_Right.f k a0_0 a0_1 l0_2 a0_3 a0_4 a0_5 = some r) (hT : Tabs w) :
  Calls Tryz.prog 8 #[.agg #[.string a0_0, .string a0_1, .slice A0_2 l0_2.length c0_2, .int .i64 a0_3, .bool a0_4, .bool a0_5]] w fun e w' => e = .returned (.bool r) ∧ Below w.heap.size w w' := by
 have one : ((a0_3 == 1), (a0_3 == 3), (a0_3 == 2), decide (0 ≤ a0_3), decide (a0_3 ≤ 3)) = (true, false, false, true, true) ∨ ((a0_3 == 1), (a0_3 == 3), (a0_3 == 2), decide (0 ≤ a0_3), decide (a0_3 ≤ 3)) = (false, true, false, true, true) ∨ ((a0_3 == 1), (a0_3 == 3), (a0_3 == 2), decide (0 ≤ a0_3), decide (a0_3 ≤ 3)) = (false, false, true, true, true) ∨ ((a0_3 == 1), (a0_3 == 3), (a0_3 == 2), decide (0 ≤ a0_3), decide (a0_3 ≤ 3)) = (false, false, false, true, true) ∨ ((a0_3 == 1), (a0_3 == 3), (a0_3 == 2), decide (0 ≤ a0_3), decide (a0_3 ≤ 3)) = (false, false, false, false, true) ∨ ((a0_3 == 1), (a0_3 == 3), (a0_3 == 2), decide (0 ≤ a0_3), decide (a0_3 ≤ 3)) = (false, false, false, true, false) := by
  simp only [Prod.mk.injEq, beq_iff_eq, beq_eq_false_iff_ne, ne_eq, decide_eq_true_eq, decide_eq_false_iff_not]
  omega
 unfold item_Right.f at h
 obtain ⟨⟨b, e⟩, A1, H⟩ := Option.bind_eq_some_iff.mp h
 simp only at H
 have go := fun (q1 q2 k2 k3 : Bool) d1 d2 HA HG => item_Right.go k a0_0 a0_1 A0_2 c0_2 l0_2 a0_3 a0_4 a0_5 b e w ⟨hr0_2⟩ ⟨hc0_2⟩ ⟨hT⟩ ⟨A1⟩ q1 q2 k2 k3 d1 d2 HA HG _ _ _ _ _ rfl rfl rfl rfl rfl one
 clear h one
 by_cases c1 : e = 0
 ·rw [if_pos c1] at H
  by_cases c2 : b.toList = a0_0.toList
  ·rw [if_pos c2] at H
   obtain ⟨k2, A2, H⟩ := Option.bind_eq_some_iff.mp H
   cases k2 with
   | false =>
    rw [if_neg Bool.false_ne_true] at H
    obtain rfl := Option.some.inj H
    have := go true true false false (beq_iff_eq.mpr c1) (beq_iff_eq.mpr c2) (fun _ _ => ⟨A2⟩) (fun _ _ h => by cases h)
    simpa using this
   | true =>
    rw [if_pos rfl] at H
    obtain ⟨k3, A3, H⟩ := Option.bind_eq_some_iff.mp H
    cases k3 with
    | false =>
     rw [if_neg Bool.false_ne_true] at H
     obtain rfl := Option.some.inj H
     have := go true true true false (beq_iff_eq.mpr c1) (beq_iff_eq.mpr c2) (fun _ _ => ⟨A2⟩) (fun _ _ _ => ⟨A3⟩)
     simpa using this
    | true =>
     rw [if_pos rfl] at H
     obtain rfl := Option.some.inj H
     have := go true true true true (beq_iff_eq.mpr c1) (beq_iff_eq.mpr c2) (fun _ _ => ⟨A2⟩) (fun _ _ _ => ⟨A3⟩)
     simp only [Bool.true_and] at this
     exact this
  rw [if_neg c2] at H
  obtain rfl := Option.some.inj H
  have := go true false false false (beq_iff_eq.mpr c1) (beq_eq_false_iff_ne.mpr c2) (fun _ h => by cases h) (fun _ h => by cases h)
  simpa using this
 rw [if_neg c1] at H
 obtain rfl := Option.some.inj H
 have := go false (b.toList == a0_0.toList) false false (beq_eq_false_iff_ne.mpr c1) rfl (fun h => by cases h) (fun h => by cases h)
 simpa using this
set_option maxHeartbeats 4000000 in
theorem api_Item.hof (A0 : Option Addr) (c0 : Nat) (l0 : List S24) (F : Nat) (caps : Array Value) (g : S24 → Bool) (w : World)
  (hr0 : Kd.C k24 w A0 l0.length l0) (hl : l0.length ≤ 140737488351232) (hF : IsFn Tryz.prog F)
  (hg : ∀ (x : S24) (A : Option Addr) (c : Nat) (W : World), x ∈ l0 → Below w.heap.size w W → Calls Tryz.prog F (#[.agg #[.string x.f0, .string x.f1, .slice A x.f2.length c, .int .i64 x.f3, .bool x.f4, .bool x.f5]] ++ caps) W fun e W' => e = .returned (.bool (g x)) ∧ Below W.heap.size W W') :
  Calls Tryz.prog 21 #[.slice A0 l0.length c0, .func (.func F) #[] caps] w fun e w' => e = .returned (.int .i64 (idxP g l0)) ∧ Below w.heap.size w w' := by
 have HB := Aside0.mk (Below.refl w.heap.size w)
 have HR := Aside0.mk hr0
 have HG := Aside0.mk hg
 clear hr0 hg
 go_enter Tryz.func21, Tryz.ntmps21
 go_wp2
 go_loopg [5, 8] (l0.length + 1) (fun gk v5 v8 wr => ∃ i : Nat, i ≤ l0.length ∧ v8 = .int .i64 i ∧ Aside0 (∀ j (hj : j < i) (hj' : j < l0.length), g (l0[j]'hj') = false) ∧ l0.length < gk + i ∧ Aside0 (Below w.heap.size w wr))
 case atStart => exact ⟨0, Nat.zero_le _, rfl, ⟨fun j hj => absurd hj (by omega)⟩, by omega, HB⟩
 case round =>
  clear HB
  obtain ⟨i, hi, rfl, HN, hk, HB⟩ := hrel
  by_cases hlt : i < l0.length
  ·obtain ⟨k', rfl⟩ : ∃ k', gk = k' + 1 := ⟨gk - 1, by omega⟩
   have hltz : (i : Int) < (l0.length : Int) := by omega
   obtain ⟨ad, A2, c2, e1, hx0, hx1, hx2, hx3, hx4, hx5, hl2, hg2⟩ := at_T24 (Kd.C_below HR.out HB.out) (i : Int) (by omega) (by omega)
   cases e1
   rw [Int.toNat_natCast] at hx0 hx1 hx2 hx3 hx4 hx5
   have hrd : rd_T24 l0 (i : Int) = l0[i] := by simp [rd_T24, hlt]
   rw [hrd] at hx0 hx1 hx2 hx3 hx4 hx5
   clear hrd hl2 hg2
   obtain ⟨x, hxx⟩ : ∃ x, l0[i] = x := ⟨_, rfl⟩
   rw [hxx] at hx0 hx1 hx2 hx3 hx4 hx5
   have HX := Aside0.mk hxx
   clear hxx
   cases hgx : g x with
   | true =>
    have HGX := Aside0.mk hgx
    clear hgx
    go_wp2_with (first | ((with_reducible refine gate_value rfl ?_); refine goesV (some 16) rfl rfl rfl rfl hF #[.agg #[.string x.f0, .string x.f1, .slice A2 x.f2.length c2, .int .i64 x.f3, .bool x.f4, .bool x.f5]] zz39 ?_; (with_reducible refine (HG.out x A2 c2 _ (mem_of_getElem HX.out) HB.out).mono ?_); rintro e w4 ⟨rfl, hb⟩; refine ⟨_, rfl, ?_⟩; have HB2 := Aside0.mk (below_step HB.out hb); clear HB hb; rw [HGX.out]))
    go_ret
    exact ⟨by rw [idxP_hit hlt (fun j hj => HN.out j hj _) (by rw [HX.out]; exact HGX.out)]; rfl, HB2.out⟩
   | false =>
    have HGX := Aside0.mk hgx
    clear hgx
    go_wp2_with (first | ((with_reducible refine gate_value rfl ?_); refine goesV (some 16) rfl rfl rfl rfl hF #[.agg #[.string x.f0, .string x.f1, .slice A2 x.f2.length c2, .int .i64 x.f3, .bool x.f4, .bool x.f5]] zz39 ?_; (with_reducible refine (HG.out x A2 c2 _ (mem_of_getElem HX.out) HB.out).mono ?_); rintro e w4 ⟨rfl, hb⟩; refine ⟨_, rfl, ?_⟩; have HB2 := Aside0.mk (below_step HB.out hb); clear HB hb; rw [HGX.out]))
    go_roundg k'
    case measure => omega
    case rel => exact ⟨i + 1, by omega, by go_num, ⟨fun j hj hj' => by
     rcases Nat.lt_or_ge j i with h | h
     ·exact HN.out j h hj'
     obtain rfl : j = i := by omega
     rw [HX.out]; exact HGX.out⟩, by omega, HB2⟩
  have : i = l0.length := by omega
  subst this
  go_wp2
  go_ret
  exact ⟨by rw [idxP_none (fun j hj => HN.out j hj hj)]; rfl, HB.out⟩
theorem item_Find_1.hof (x : S24) (A : Option Addr) (c : Nat) (gb : Nat) (s : ByteArray) (w : World) (hbox : w.heap[gb]? = some (.cells #[.string s] 9 (0, 0))) :
  Calls Tryz.prog 22 #[.agg #[.string x.f0, .string x.f1, .slice A x.f2.length c, .int .i64 x.f3, .bool x.f4, .bool x.f5], .pointer (some ⟨gb, 0, none⟩)] w fun e w' => e = .returned (.bool (x.f0.toList == s.toList)) ∧ Below w.heap.size w w' := by
 go_enter Tryz.func22, Tryz.ntmps22
 have hlt := blk_lt hbox
 have hc : w.cell? ⟨gb, 0, none⟩ = some (.string s) := (blk_cell hbox 0).trans rfl
 go_wp2
 go_ret
 exact ⟨rfl, below_alloc (Below.refl _ _) _⟩
def slices_Clone_string_string.f (l0 : List ByteArray) : Option (List ByteArray) := if l0.length < 8796093022208 then some l0 else none
set_option maxHeartbeats 4000000 in
set_option maxRecDepth 100000 in
theorem slices_Clone_string_string.calls (A0 : Option Addr) (c0 : Nat) (l0 : List ByteArray) (r : List ByteArray) (w : World) (hr0 : Kd.string.C w A0 l0.length l0) (hc0 : l0.length ≤ c0) (h : slices_Clone_string_string.f l0 = some r) :
  Calls Tryz.prog 38 #[.slice A0 l0.length c0] w fun e w' => ∃ v0_ : Value, e = .returned (v0_) ∧ Kd.string.R 9 w' w.heap.size (fun _ => True) v0_ r ∧ Below w.heap.size w w' := by
 unfold slices_Clone_string_string.f at h
 split at h
 ·rename_i hs
  obtain rfl := Option.some.inj h
  have HL := Aside0.mk hs
  clear h hs
  cases A0 with
  | none =>
   have hn : l0 = [] := by
    cases l0 with
    | nil => rfl
    | cons b t =>
     obtain ⟨ad, e, _⟩ := Kd.at_string hr0 0 (by omega) (by simp)
     cases e
   subst hn
   have qT := fun W : World => Go.Lib.run_eql_slice_nil (P := Tryz.prog) W 22 9 none 0 c0 0 0 Tryz.underlying22
   clear hr0 hc0
   go_enter Tryz.func38, Tryz.ntmps38
   go_wp2
   go_ret
   exact ⟨_, rfl, Kd.R_nil _ _ _ _ _, Below.refl _ _⟩
  | some ad =>
   have HR := Aside0.mk hr0
   have qT := fun W : World => Go.Lib.run_eql_slice_nil (P := Tryz.prog) W 22 9 (some ad) l0.length c0 0 0 Tryz.underlying22
   clear hr0 hc0
   go_enter Tryz.func38, Tryz.ntmps38
   go_wp2_with (first | ((with_reducible refine gate_dst (N := 5) rfl ?_); refine Kd.R_lit Kd.string w.heap.size 9 ?hg (N := 5) ?hd (xs := ([] : List ByteArray)) (inner := []) (ok := fun _ => True) (okp := fun _ => True) ?hr ?hp (fun _ hk => hk) trivial (Below.refl _ _) (Nat.le_refl _) (by simp) ?_; (case hd => rfl); (case hg => rfl); (case hr => exact zz29); (case hp => exact Reps.none _ _); intro v5 w5 ho5 hb5 hg_ hnew_; have HO5 := Aside0.mk ho5; have HB5 := Aside0.mk hb5; clear hg_ hnew_ ho5 hb5) | ((with_reducible refine gate_builtin (b := .append) (xs := #[.tmp 5, .tmp 6]) rfl ?_); at_builtin; refine Kd.R_append_rows Kd.string (w0 := w) w.heap.size rfl (.tmp 5) (.tmp 6) 22 9 (.string ⟨#[]⟩) 16 rfl Tryz.underlying22 info9 rfl (by decide) (by omega) v5 ([] : List ByteArray) l0 _ _ _ (fun _ => True) (fun _ => False) rfl rfl ?aO ?aR (fun _ _ h => h) (fun _ h => h.elim) ?aF ?aB ?aS ?aL ?_; (case aR => exact Kd.C_below HR.out HB5.out); (case aF => exact (fun _ _ => trivial)); (case aO => exact HO5.out); (case aB => exact HB5.out); (case aS => exact below_size HB5.out); (case aL => have := HL.out; simp only [List.length_nil]; omega); intro v7 w7 ho hb7 hg7 hat; have HO7 := Aside0.mk ho; have HB7 := Aside0.mk hb7; clear ho hb7 hg7 hat))
   go_ret
   exact ⟨_, rfl, HO7.out, HB7.out⟩
 cases h
def item_own.f (a0_0 : ByteArray) (a0_1 : ByteArray) (l0_2 : List ByteArray) (a0_3 : Int) (a0_4 : Bool) (a0_5 : Bool) : Option (ByteArray × ByteArray × List ByteArray × Int × Bool × Bool) := (slices_Clone_string_string.f l0_2).bind fun t261 => (some (a0_0, a0_1, t261, a0_3, a0_4, a0_5))
set_option maxHeartbeats 8000000 in
set_option maxRecDepth 100000 in
theorem item_own.calls (a0_0 : ByteArray) (a0_1 : ByteArray) (A0_2 : Option Addr) (c0_2 : Nat) (l0_2 : List ByteArray) (a0_3 : Int) (a0_4 : Bool) (a0_5 : Bool) (r1 : ByteArray) (r2 : ByteArray) (r3 : List ByteArray) (r4 : Int) (r5 : Bool) (r6 : Bool) (w : World) (hr0_2 : Kd.C Kd.string w A0_2 l0_2.length l0_2) (hc0_2 : l0_2.length ≤ c0_2) (h : item_own.f a0_0 a0_1 l0_2 a0_3 a0_4 a0_5 = some (r1, r2, r3, r4, r5, r6)) :
  Calls Tryz.prog 23 #[.agg #[.string a0_0, .string a0_1, .slice A0_2 l0_2.length c0_2, .int .i64 a0_3, .bool a0_4, .bool a0_5]] w fun e w' => ∃ v2_ : Value, e = .returned (.agg #[.string r1, .string r2, v2_, .int .i64 r4, .bool r5, .bool r6]) ∧ Kd.R Kd.string 9 w' w.heap.size (fun _ => True) v2_ r3 ∧ Below w.heap.size w w' := by
 have hu24 := Tryz.underlying24
 have HR0_2 := Aside0.mk hr0_2
 have HC0_2 := Aside0.mk hc0_2
 clear hr0_2 hc0_2
 have HB := Aside0.mk (Below.refl w.heap.size w)
 have H : ((slices_Clone_string_string.f l0_2).bind fun t261 => (some (a0_0, a0_1, t261, a0_3, a0_4, a0_5))) = some (r1, r2, r3, r4, r5, r6) := h
 clear h
 replace H := Option.bind_eq_some_iff.mp H
 obtain ⟨t261, A20, H⟩ := H
 try dsimp only at H
 have A2 := Aside0.mk A20
 clear A20
 simp only [Option.some.injEq, Prod.mk.injEq] at H
 obtain ⟨rfl, rfl, rfl, rfl, rfl, rfl⟩ := H
 go_enter Tryz.func23, Tryz.ntmps23
 go_wp2_with (first | ((with_reducible refine gd 1 ?_); refine bz #[.string a0_0, .string a0_1, .slice A0_2 l0_2.length c0_2, .int .i64 a0_3, .bool a0_4, .bool a0_5] 24 ?_; intro gb259 hg w3 hbox hb; have n_ := as4 (below_step zz0 hb) hbox (gs w hg zz0) (gs w hg zz0); clear HB; obtain ⟨HB, BK259, GW259, GE259⟩ := n_; clear hb hbox hg) | ((with_reducible refine gd 2 ?_); refine bz #[.string (⟨#[]⟩ : ByteArray), .string (⟨#[]⟩ : ByteArray), .slice none 0 0, .int .i64 0, .bool false, .bool false] 24 ?_; intro gb260 hg w4 hbox hb; have n_ := as7 (blk_below zz67 hb) (below_step zz71 hb) hbox (gs w hg zz71) (gs w hg zz71) (nl hg zz67) (ng hg zz67); clear BK259 HB; obtain ⟨BK259, HB, BK260, GW260, GE260, NB259_260, NB260_259⟩ := n_; clear hb hbox hg; have hnb5 := NB259_260.out; have hnc5 := NB260_259.out; obtain ⟨hcz6_0, hcz6_1, hcz6_2, hcz6_3, hcz6_4, hcz6_5⟩ := cz6 BK259.out; obtain ⟨hfz6_0, hfz6_1, hfz6_2, hfz6_3, hfz6_4, hfz6_5⟩ := fz6 BK259.out) | ((with_reducible refine gc 38 ?_); refine gL (some 5) Tryz.func38 #[.slice A0_2 l0_2.length c0_2] ?_; (with_reducible refine (slices_Clone_string_string.calls _ _ l0_2 t261 _ ?side1 ?side2 A2.out).mono ?_); (case side1 => exact (by repeat (first | exact (Kd.C_below HR0_2.out HB.out) | (with_reducible refine Kd.C_alloc ?_ _) | (with_reducible refine Kd.C_drewN ?_ _) | (with_reducible refine Kd.C_drew ?_)))); (case side2 => exact HC0_2.out); rintro e w7 ⟨v262, rfl, ho0, hb⟩; refine ⟨_, rfl, ?_⟩; have n_ := as4 (Kd.R_lower ho0 (below_size zz62)) (blk_below zz67 hb) (blk_below (by (with_reducible repeat (first | refine blk_drewN ?_ _ | refine blk_drew ?_ | refine blk_alloc ?_ _)); exact BK260.out) hb) (below_step zz62 hb); clear BK259 BK260 HB; obtain ⟨HO263, BK259, BK260, HB⟩ := n_; (try clear hb ho0); obtain ⟨Ao8, co8, eo8⟩ := Kd.R_slice HO263.out; subst eo8; obtain ⟨hcz9_0, hcz9_1, hcz9_2, hcz9_3, hcz9_4, hcz9_5⟩ := cz6 BK259.out; obtain ⟨hfz9_0, hfz9_1, hfz9_2, hfz9_3, hfz9_4, hfz9_5⟩ := fz6 BK259.out; obtain ⟨hcz10_0, hcz10_1, hcz10_2, hcz10_3, hcz10_4, hcz10_5⟩ := cz6 BK260.out; obtain ⟨hfz10_0, hfz10_1, hfz10_2, hfz10_3, hfz10_4, hfz10_5⟩ := fz6 BK260.out))
 refine bodyPost_ret (results_cell_row rfl _ _ gb260 24 #[.string a0_0, .string a0_1, .slice Ao8 t261.length co8, .int .i64 a0_3, .bool a0_4, .bool a0_5] (0, 0) _ rfl (by (with_reducible repeat (first | refine blk_drewN ?_ _ | refine blk_drew ?_ | refine blk_alloc ?_ _)); refine blk_put (cs := #[.string a0_0, .string a0_1, .slice Ao8 t261.length co8, .int .i64 a0_3, .bool a0_4, .bool false]) ?_ 5 _ rfl; (with_reducible repeat (first | refine blk_drewN ?_ _ | refine blk_drew ?_ | refine blk_alloc ?_ _)); refine blk_put (cs := #[.string a0_0, .string a0_1, .slice Ao8 t261.length co8, .int .i64 a0_3, .bool false, .bool false]) ?_ 4 _ rfl; (with_reducible repeat (first | refine blk_drewN ?_ _ | refine blk_drew ?_ | refine blk_alloc ?_ _)); refine blk_put (cs := #[.string a0_0, .string a0_1, .slice Ao8 t261.length co8, .int .i64 0, .bool false, .bool false]) ?_ 3 _ rfl; (with_reducible repeat (first | refine blk_drewN ?_ _ | refine blk_drew ?_ | refine blk_alloc ?_ _)); refine blk_put (cs := #[.string a0_0, .string a0_1, .slice none 0 0, .int .i64 0, .bool false, .bool false]) ?_ 2 _ rfl; (with_reducible repeat (first | refine blk_drewN ?_ _ | refine blk_drew ?_ | refine blk_alloc ?_ _)); refine blk_put (cs := #[.string a0_0, .string (⟨#[]⟩ : ByteArray), .slice none 0 0, .int .i64 0, .bool false, .bool false]) ?_ 1 _ rfl; (with_reducible repeat (first | refine blk_drewN ?_ _ | refine blk_drew ?_ | refine blk_alloc ?_ _)); refine blk_put (cs := #[.string (⟨#[]⟩ : ByteArray), .string (⟨#[]⟩ : ByteArray), .slice none 0 0, .int .i64 0, .bool false, .bool false]) ?_ 0 _ rfl; (with_reducible repeat (first | refine blk_drewN ?_ _ | refine blk_drew ?_ | refine blk_alloc ?_ _)); refine blk_far ?_ NB260_259.out _; (with_reducible repeat (first | refine blk_drewN ?_ _ | refine blk_drew ?_ | refine blk_alloc ?_ _)); exact BK260.out) Tryz.underlying24 rfl zz34) rfl ?_
 exact ⟨_, zz4, by (with_reducible repeat (first | apply Kd.R_alloc | apply Kd.R_drewN | apply Kd.R_drew)); exact Kd.R_mono (Kd.R_far (p := ⟨gb260, 5, none⟩) (Kd.R_far (p := ⟨gb260, 4, none⟩) (Kd.R_far (p := ⟨gb260, 3, none⟩) (Kd.R_far (p := ⟨gb260, 2, none⟩) (Kd.R_far (p := ⟨gb260, 1, none⟩) (Kd.R_far (p := ⟨gb260, 0, none⟩) (Kd.R_far (p := ⟨gb259, 2, none⟩) (Kd.R_types (Kd.R_types HO263.out BK259.out (by decide)) BK260.out (by decide)) (fun _ hk => hk.1.2) (.slice Ao8 t261.length co8)) (fun _ hk => hk.2) (.string a0_0)) (fun _ hk => hk.2) (.string a0_1)) (fun _ hk => hk.2) (.slice Ao8 t261.length co8)) (fun _ hk => hk.2) (.int .i64 a0_3)) (fun _ hk => hk.2) (.bool a0_4)) (fun _ hk => hk.2) (.bool a0_5)) (fun _ hk => trivial), zz62⟩
def in_item_Find_1.f (l0 : List S24) (s1_0 : ByteArray) : Option Int := if l0.length ≤ 140737488351232 then some (idxP (fun x => x.f0.toList == s1_0.toList) l0) else none
theorem in_item_Find_1.calls (A0 : Option Addr) (c0 : Nat) (l0 : List S24) (gb : Nat) (s1_0 : ByteArray) (r : Int) (w : World) (hr0 : Kd.C k24 w A0 l0.length l0) (hc0 : l0.length ≤ c0) (hbox : w.heap[gb]? = some (.cells #[.string s1_0] 9 (0, 0))) (h : in_item_Find_1.f l0 s1_0 = some r) :
  Calls Tryz.prog 21 #[.slice A0 l0.length c0, .func (.func 22) #[] #[.pointer (some ⟨gb, 0, none⟩)]] w fun e w' => e = .returned (.int .i64 r) ∧ Below w.heap.size w w' := by
 unfold in_item_Find_1.f at h
 split at h
 ·rename_i hl
  obtain rfl := Option.some.inj h
  have hF : IsFn Tryz.prog 22 := ⟨⟨_, Tryz.func22, zz34, zz34⟩⟩
  exact api_Item.hof A0 c0 l0 22 #[.pointer (some ⟨gb, 0, none⟩)] (fun x => x.f0.toList == s1_0.toList) w hr0 hl hF (fun x A c W _ hb => item_Find_1.hof x A c gb s1_0 W (blk_below hbox hb))
 cases h
def item_Find.f (l0 : List (S24)) (a1 : ByteArray) : Option (ByteArray × ByteArray × List ByteArray × Int × Bool × Bool × Bool) := (in_item_Find_1.f l0 a1).bind fun t266 => (if t266 < 0 then (some ((⟨#[]⟩ : ByteArray), (⟨#[]⟩ : ByteArray), ([] : List ByteArray), 0, false, false, false)) else (if 0 ≤ t266 then (if t266 < (l0.length : Int) then ((item_own.f ((rd_T24 l0 t266).f0) ((rd_T24 l0 t266).f1) ((rd_T24 l0 t266).f2) ((rd_T24 l0 t266).f3) ((rd_T24 l0 t266).f4) ((rd_T24 l0 t266).f5)).bind fun bt268 => (some (bt268.1, bt268.2.1, bt268.2.2.1, bt268.2.2.2.1, bt268.2.2.2.2.1, bt268.2.2.2.2.2, true))) else (none)) else (none)))
set_option maxHeartbeats 8000000 in
set_option maxRecDepth 100000 in
theorem item_Find.calls (A0 : Option Addr) (c0 : Nat) (l0 : List (S24)) (a1 : ByteArray) (r1 : ByteArray) (r2 : ByteArray) (r3 : List ByteArray) (r4 : Int) (r5 : Bool) (r6 : Bool) (r7 : Bool) (w : World) (hr0 : Kd.C k24 w A0 l0.length l0) (hc0 : l0.length ≤ c0) (h : item_Find.f l0 a1 = some (r1, r2, r3, r4, r5, r6, r7)) :
  Calls Tryz.prog 10 #[.slice A0 l0.length c0, .string a1] w fun e w' => ∃ v2_ : Value, e = .returned (.tuple #[.agg #[.string r1, .string r2, v2_, .int .i64 r4, .bool r5, .bool r6], .bool r7]) ∧ Kd.R Kd.string 9 w' w.heap.size (fun _ => True) v2_ r3 ∧ Below w.heap.size w w' := by
 have hu24 := Tryz.underlying24
 have HR0 := Aside0.mk hr0
 have HC0 := Aside0.mk hc0
 clear hr0 hc0
 have HB := Aside0.mk (Below.refl w.heap.size w)
 have H : ((in_item_Find_1.f l0 a1).bind fun t266 => (if t266 < 0 then (some ((⟨#[]⟩ : ByteArray), (⟨#[]⟩ : ByteArray), ([] : List ByteArray), 0, false, false, false)) else (if 0 ≤ t266 then (if t266 < (l0.length : Int) then ((item_own.f ((rd_T24 l0 t266).f0) ((rd_T24 l0 t266).f1) ((rd_T24 l0 t266).f2) ((rd_T24 l0 t266).f3) ((rd_T24 l0 t266).f4) ((rd_T24 l0 t266).f5)).bind fun bt268 => (some (bt268.1, bt268.2.1, bt268.2.2.1, bt268.2.2.2.1, bt268.2.2.2.2.1, bt268.2.2.2.2.2, true))) else (none)) else (none)))) = some (r1, r2, r3, r4, r5, r6, r7) := h
 clear h
 replace H := Option.bind_eq_some_iff.mp H
 obtain ⟨t266, A30, H⟩ := H
 try dsimp only at H
 have A3 := Aside0.mk A30
 clear A30
 by_cases c4 : t266 < 0
 ·rw [if_pos c4] at H
  have c4b0 := decide_eq_true c4
  clear c4
  simp only [Option.some.injEq, Prod.mk.injEq] at H
  obtain ⟨rfl, rfl, rfl, rfl, rfl, rfl, rfl⟩ := H
  go_enter Tryz.func10, Tryz.ntmps10
  go_wp2_with (first | ((with_reducible refine gd 3 ?_); refine bz #[.string a1] 9 ?_; intro gb264 hg w5 hbox hb; have n_ := as4 (below_step zz0 hb) hbox (gs w hg zz0) (gs w hg zz0); clear HB; obtain ⟨HB, BK264, GW264, GE264⟩ := n_; clear hb hbox hg) | ((with_reducible refine gd 4 ?_); refine bz #[.string (⟨#[]⟩ : ByteArray), .string (⟨#[]⟩ : ByteArray), .slice none 0 0, .int .i64 0, .bool false, .bool false] 24 ?_; intro gb265 hg w6 hbox hb; have n_ := as7 (blk_below zz41 hb) (below_step zz47 hb) hbox (gs w hg zz47) (gs w hg zz47) (nl hg zz41) (ng hg zz41); clear BK264 HB; obtain ⟨BK264, HB, BK265, GW265, GE265, NB264_265, NB265_264⟩ := n_; clear hb hbox hg) | ((with_reducible refine gc 21 ?_); refine gL (some 9) Tryz.func21 #[.slice A0 l0.length c0, .func (.func 22) #[] #[.pointer (some ⟨gb264, 0, none⟩)]] ?_; (with_reducible refine (in_item_Find_1.calls _ _ l0 gb264 a1 t266 _ ?side1 ?side2 ?side3 A3.out).mono ?_); (case side1 => exact (by repeat (first | exact (Kd.C_below HR0.out HB.out) | (with_reducible refine Kd.C_alloc ?_ _) | (with_reducible refine Kd.C_drewN ?_ _) | (with_reducible refine Kd.C_drew ?_)))); (case side2 => exact HC0.out); (case side3 => exact (by exact by (with_reducible repeat (first | refine blk_drewN ?_ _ | refine blk_drew ?_ | refine blk_alloc ?_ _)); exact BK264.out)); rintro e w7 ⟨rfl, hb⟩; refine ⟨_, rfl, ?_⟩; have n_ := as3 (blk_below zz41 hb) (blk_below (by (with_reducible repeat (first | refine blk_drewN ?_ _ | refine blk_drew ?_ | refine blk_alloc ?_ _)); exact BK265.out) hb) (below_step zz43 hb); clear BK264 BK265 HB; obtain ⟨BK264, BK265, HB⟩ := n_; (try clear hb); have hnb8 := NB265_264.out; have hnc8 := NB264_265.out; obtain ⟨hcz9_0, hcz9_1, hcz9_2, hcz9_3, hcz9_4, hcz9_5⟩ := cz6 BK265.out; obtain ⟨hfz9_0, hfz9_1, hfz9_2, hfz9_3, hfz9_4, hfz9_5⟩ := fz6 BK265.out))
  refine bodyPost_ret (results_ct rfl _ _ gb265 24 #[.string (⟨#[]⟩ : ByteArray), .string (⟨#[]⟩ : ByteArray), .slice none 0 0, .int .i64 0, .bool false, .bool false] (0, 0) _ rfl (by (with_reducible repeat (first | refine blk_drewN ?_ _ | refine blk_drew ?_ | refine blk_alloc ?_ _)); refine blk_put (cs := #[.string (⟨#[]⟩ : ByteArray), .string (⟨#[]⟩ : ByteArray), .slice none 0 0, .int .i64 0, .bool false, .bool false]) ?_ 5 _ rfl; (with_reducible repeat (first | refine blk_drewN ?_ _ | refine blk_drew ?_ | refine blk_alloc ?_ _)); refine blk_put (cs := #[.string (⟨#[]⟩ : ByteArray), .string (⟨#[]⟩ : ByteArray), .slice none 0 0, .int .i64 0, .bool false, .bool false]) ?_ 4 _ rfl; (with_reducible repeat (first | refine blk_drewN ?_ _ | refine blk_drew ?_ | refine blk_alloc ?_ _)); refine blk_put (cs := #[.string (⟨#[]⟩ : ByteArray), .string (⟨#[]⟩ : ByteArray), .slice none 0 0, .int .i64 0, .bool false, .bool false]) ?_ 3 _ rfl; (with_reducible repeat (first | refine blk_drewN ?_ _ | refine blk_drew ?_ | refine blk_alloc ?_ _)); refine blk_put (cs := #[.string (⟨#[]⟩ : ByteArray), .string (⟨#[]⟩ : ByteArray), .slice none 0 0, .int .i64 0, .bool false, .bool false]) ?_ 2 _ rfl; (with_reducible repeat (first | refine blk_drewN ?_ _ | refine blk_drew ?_ | refine blk_alloc ?_ _)); refine blk_put (cs := #[.string (⟨#[]⟩ : ByteArray), .string (⟨#[]⟩ : ByteArray), .slice none 0 0, .int .i64 0, .bool false, .bool false]) ?_ 1 _ rfl; (with_reducible repeat (first | refine blk_drewN ?_ _ | refine blk_drew ?_ | refine blk_alloc ?_ _)); refine blk_put (cs := #[.string (⟨#[]⟩ : ByteArray), .string (⟨#[]⟩ : ByteArray), .slice none 0 0, .int .i64 0, .bool false, .bool false]) ?_ 0 _ rfl; (with_reducible repeat (first | refine blk_drewN ?_ _ | refine blk_drew ?_ | refine blk_alloc ?_ _)); exact BK265.out) Tryz.underlying24 rfl zz34) rfl ?_
  exact ⟨_, zz4, zz46, zz43⟩
 rw [if_neg c4] at H
 have c4b0 := decide_eq_false c4
 clear c4
 by_cases c10 : 0 ≤ t266
 ·rw [if_pos c10] at H
  have c10b0 := decide_eq_true c10
  clear c10
  by_cases c11 : t266 < (l0.length : Int)
  ·rw [if_pos c11] at H
   have c11b0 := decide_eq_true c11
   clear c11
   replace H := Option.bind_eq_some_iff.mp H
   obtain ⟨⟨t268, t269, t270, t273, t274, t275⟩, A120, H⟩ := H
   try dsimp only at H
   have A12 := Aside0.mk A120
   clear A120
   simp only [Option.some.injEq, Prod.mk.injEq] at H
   obtain ⟨rfl, rfl, rfl, rfl, rfl, rfl, rfl⟩ := H
   go_enter Tryz.func10, Tryz.ntmps10
   go_wp2_with (first | ((with_reducible refine gd 3 ?_); refine bz #[.string a1] 9 ?_; intro gb264 hg w13 hbox hb; have n_ := as4 (below_step zz0 hb) hbox (gs w hg zz0) (gs w hg zz0); clear HB; obtain ⟨HB, BK264, GW264, GE264⟩ := n_; clear hb hbox hg) | ((with_reducible refine gd 4 ?_); refine bz #[.string (⟨#[]⟩ : ByteArray), .string (⟨#[]⟩ : ByteArray), .slice none 0 0, .int .i64 0, .bool false, .bool false] 24 ?_; intro gb265 hg w14 hbox hb; have n_ := as7 (blk_below zz41 hb) (below_step zz47 hb) hbox (gs w hg zz47) (gs w hg zz47) (nl hg zz41) (ng hg zz41); clear BK264 HB; obtain ⟨BK264, HB, BK265, GW265, GE265, NB264_265, NB265_264⟩ := n_; clear hb hbox hg) | ((with_reducible refine gc 21 ?_); refine gL (some 9) Tryz.func21 #[.slice A0 l0.length c0, .func (.func 22) #[] #[.pointer (some ⟨gb264, 0, none⟩)]] ?_; (with_reducible refine (in_item_Find_1.calls _ _ l0 gb264 a1 t266 _ ?side1 ?side2 ?side3 A3.out).mono ?_); (case side1 => exact (by repeat (first | exact (Kd.C_below HR0.out HB.out) | (with_reducible refine Kd.C_alloc ?_ _) | (with_reducible refine Kd.C_drewN ?_ _) | (with_reducible refine Kd.C_drew ?_)))); (case side2 => exact HC0.out); (case side3 => exact (by exact by (with_reducible repeat (first | refine blk_drewN ?_ _ | refine blk_drew ?_ | refine blk_alloc ?_ _)); exact BK264.out)); rintro e w15 ⟨rfl, hb⟩; refine ⟨_, rfl, ?_⟩; have n_ := as3 (blk_below zz41 hb) (blk_below (by (with_reducible repeat (first | refine blk_drewN ?_ _ | refine blk_drew ?_ | refine blk_alloc ?_ _)); exact BK265.out) hb) (below_step zz43 hb); clear BK264 BK265 HB; obtain ⟨BK264, BK265, HB⟩ := n_; (try clear hb); have p267 : 0 ≤ (t266 : Int) := of_decide_eq_true zz6; have q267 : t266 < (l0.length : Int) := of_decide_eq_true zz6; obtain ⟨ad267, A267_2, c267_2, e267, hx267_0, hx267_1, hx267_2, hx267_3, hx267_4, hx267_5, hl267_2, hi267_2⟩ := at_T24 HR0.out t266 p267 q267; cases e267; replace hx267_0 := hereB HB hx267_0; replace hx267_1 := hereB HB hx267_1; replace hx267_2 := hereB HB hx267_2; replace hx267_3 := hereB HB hx267_3; replace hx267_4 := hereB HB hx267_4; replace hx267_5 := hereB HB hx267_5; have HR267_2 := Aside0.mk hi267_2; have HC267_2 := Aside0.mk hl267_2; clear hi267_2 hl267_2; replace p267 := eq_true p267; replace q267 := eq_true q267) | ((with_reducible refine gc 23 ?_); refine gL (some 17) Tryz.func23 #[.agg #[.string ((rd_T24 l0 t266).f0), .string ((rd_T24 l0 t266).f1), .slice A267_2 ((rd_T24 l0 t266).f2).length c267_2, .int .i64 ((rd_T24 l0 t266).f3), .bool ((rd_T24 l0 t266).f4), .bool ((rd_T24 l0 t266).f5)]] ?_; (with_reducible refine (item_own.calls ((rd_T24 l0 t266).f0) ((rd_T24 l0 t266).f1) _ _ ((rd_T24 l0 t266).f2) ((rd_T24 l0 t266).f3) ((rd_T24 l0 t266).f4) ((rd_T24 l0 t266).f5) t268 t269 t270 t273 t274 t275 _ ?side1 ?side2 A12.out).mono ?_); (case side1 => exact (by repeat (first | exact (Kd.C_below HR267_2.out HB.out) | (with_reducible refine Kd.C_alloc ?_ _) | (with_reducible refine Kd.C_drewN ?_ _) | (with_reducible refine Kd.C_drew ?_)))); (case side2 => exact HC267_2.out); rintro e w16 ⟨v271, rfl, ho0, hb⟩; refine ⟨_, rfl, ?_⟩; have n_ := as4 (Kd.R_lower (Kd.R_newB ho0 (g := gb264) (o := .cells #[.string a1] 9 (0, 0)) zz41) (below_size zz43)) (blk_below zz41 hb) (blk_below (by (with_reducible repeat (first | refine blk_drewN ?_ _ | refine blk_drew ?_ | refine blk_alloc ?_ _)); exact BK265.out) hb) (below_step zz43 hb); clear BK264 BK265 HB; obtain ⟨HO272, BK264, BK265, HB⟩ := n_; (try clear hb ho0); have hnb17 := NB265_264.out; have hnc17 := NB264_265.out; obtain ⟨hcz18_0, hcz18_1, hcz18_2, hcz18_3, hcz18_4, hcz18_5⟩ := cz6 BK265.out; obtain ⟨hfz18_0, hfz18_1, hfz18_2, hfz18_3, hfz18_4, hfz18_5⟩ := fz6 BK265.out; obtain ⟨Ao19, co19, eo19⟩ := Kd.R_slice HO272.out; subst eo19))
   refine bodyPost_ret (results_ct rfl _ _ gb265 24 #[.string t268, .string t269, .slice Ao19 t270.length co19, .int .i64 t273, .bool t274, .bool t275] (0, 0) _ rfl (by (with_reducible repeat (first | refine blk_drewN ?_ _ | refine blk_drew ?_ | refine blk_alloc ?_ _)); refine blk_put (cs := #[.string t268, .string t269, .slice Ao19 t270.length co19, .int .i64 t273, .bool t274, .bool false]) ?_ 5 _ rfl; (with_reducible repeat (first | refine blk_drewN ?_ _ | refine blk_drew ?_ | refine blk_alloc ?_ _)); refine blk_put (cs := #[.string t268, .string t269, .slice Ao19 t270.length co19, .int .i64 t273, .bool false, .bool false]) ?_ 4 _ rfl; (with_reducible repeat (first | refine blk_drewN ?_ _ | refine blk_drew ?_ | refine blk_alloc ?_ _)); refine blk_put (cs := #[.string t268, .string t269, .slice Ao19 t270.length co19, .int .i64 0, .bool false, .bool false]) ?_ 3 _ rfl; (with_reducible repeat (first | refine blk_drewN ?_ _ | refine blk_drew ?_ | refine blk_alloc ?_ _)); refine blk_put (cs := #[.string t268, .string t269, .slice none 0 0, .int .i64 0, .bool false, .bool false]) ?_ 2 _ rfl; (with_reducible repeat (first | refine blk_drewN ?_ _ | refine blk_drew ?_ | refine blk_alloc ?_ _)); refine blk_put (cs := #[.string t268, .string (⟨#[]⟩ : ByteArray), .slice none 0 0, .int .i64 0, .bool false, .bool false]) ?_ 1 _ rfl; (with_reducible repeat (first | refine blk_drewN ?_ _ | refine blk_drew ?_ | refine blk_alloc ?_ _)); refine blk_put (cs := #[.string (⟨#[]⟩ : ByteArray), .string (⟨#[]⟩ : ByteArray), .slice none 0 0, .int .i64 0, .bool false, .bool false]) ?_ 0 _ rfl; (with_reducible repeat (first | refine blk_drewN ?_ _ | refine blk_drew ?_ | refine blk_alloc ?_ _)); exact BK265.out) Tryz.underlying24 rfl zz34) rfl ?_
   exact ⟨_, zz4, by (with_reducible repeat (first | apply Kd.R_alloc | apply Kd.R_drewN | apply Kd.R_drew)); exact Kd.R_mono (Kd.R_far (p := ⟨gb265, 5, none⟩) (Kd.R_far (p := ⟨gb265, 4, none⟩) (Kd.R_far (p := ⟨gb265, 3, none⟩) (Kd.R_far (p := ⟨gb265, 2, none⟩) (Kd.R_far (p := ⟨gb265, 1, none⟩) (Kd.R_far (p := ⟨gb265, 0, none⟩) (Kd.R_types HO272.out BK265.out (by decide)) (fun _ hk => hk.2) (.string t268)) (fun _ hk => hk.2) (.string t269)) (fun _ hk => hk.2) (.slice Ao19 t270.length co19)) (fun _ hk => hk.2) (.int .i64 t273)) (fun _ hk => hk.2) (.bool t274)) (fun _ hk => hk.2) (.bool t275)) (fun _ hk => trivial), zz43⟩
  rw [if_neg c11] at H
  exact absurd H (by simp)
 rw [if_neg c10] at H
 exact absurd H (by simp)
def cardexhelp_Plain_string_1.f (a0 : ByteArray) (a1 : ByteArray) : Option (Bool) := some (a0.toList == a1.toList)
set_option maxHeartbeats 8000000 in
set_option maxRecDepth 100000 in
theorem cardexhelp_Plain_string_1.calls (a0 : ByteArray) (a1 : ByteArray) (r : Bool) (w : World) (h : cardexhelp_Plain_string_1.f a0 a1 = some r) :
  Calls Tryz.prog 25 #[.string a0, .string a1] w fun e w' => e = .returned (.bool r) ∧ Drawn0 w w' := by
 have H : (some (a0.toList == a1.toList)) = some r := h
 clear h
 obtain rfl := Option.some.inj H
 go_enter Tryz.func25, Tryz.ntmps25
 go_wp2
 go_ret
 exact ⟨zz1, zz17⟩
end Go.Proofs.YtaekklpphlcngaaGreatDoor.Q
