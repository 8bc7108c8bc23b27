-- Written by hookprint.py (wip/) of this session: the kit's print with hand-proved functions beside it. Not trusted: Lean checks it.
import Derived.Test.YtaekklpphlcngaaGreatDoorQ0
import Derived.Test.YtaekklpphlcngaaGreatDoorQ5
namespace Go.Proofs.YtaekklpphlcngaaGreatDoor.Q
open List (setIfInBounds_toArray set_cons_zero set_cons_succ)
open Go.RowKit Go.Lib Go.Proofs.YtaekklpphlcngaaGreatDoorX Go.Proofs.YtaekklpphlcngaaGreatDoorW.PrintWords Go.Proofs.YtaekklpphlcngaaGreatDoorW.PrintLast Go.Proofs.YtaekklpphlcngaaGreatDoorW.PrintMore
set_option linter.unusedVariables false
set_option linter.unusedSimpArgs false
def cardexhelp_Same_string_cardexhelp_Plain_string_1.l0 : Nat → List ByteArray → List ByteArray → Int → Option (Bool)
 | 0, _, _, _ => none
 | k + 1, x0, x1, x7 => if x7 < (x0.length : Int) then (if 0 ≤ x7 then (if x7 < (x1.length : Int) then ((cardexhelp_Plain_string_1.f (rdOf ByteArray.empty x0 x7) (rdOf ByteArray.empty x1 x7)).bind fun t278 => (if t278 = true then (cardexhelp_Same_string_cardexhelp_Plain_string_1.l0 k x0 x1 (wrap64 (x7 + 1))) else (some false))) else (none)) else (none)) else (some true)
def cardexhelp_Same_string_cardexhelp_Plain_string_1.f (k : Nat) (l0 : List ByteArray) (l1 : List ByteArray)  : Option (Bool) := if (l0.length : Int) = (l1.length : Int) then (cardexhelp_Same_string_cardexhelp_Plain_string_1.l0 k l0 l1 0) else (some false)
theorem cardexhelp_Same_string_cardexhelp_Plain_string_1.mono_l : ∀ k, (∀ y0 y1 y2, LeO (cardexhelp_Same_string_cardexhelp_Plain_string_1.l0 k y0 y1 y2) (cardexhelp_Same_string_cardexhelp_Plain_string_1.l0 (k + 1) y0 y1 y2))
 | 0 => fun _ _ _ r h => by simp [cardexhelp_Same_string_cardexhelp_Plain_string_1.l0] at h
 | k + 1 => by
  have ih0 := cardexhelp_Same_string_cardexhelp_Plain_string_1.mono_l k
  intro y0 y1 y2
  unfold cardexhelp_Same_string_cardexhelp_Plain_string_1.l0
  repeat' first
  | (with_reducible exact ih0 _ _ _)
  | (with_reducible exact LeO.refl _)
  | (with_reducible exact LeO.none _)
  | (with_reducible refine LeO.ite ?_ ?_)
  | (with_reducible refine LeO.bind ?_ (fun _ => ?_))
  | exact ih0 _ _ _
  | exact LeO.none _
  | refine LeO.ite ?_ ?_
  | refine LeO.bind ?_ (fun _ => ?_)
theorem cardexhelp_Same_string_cardexhelp_Plain_string_1.mono : ∀ a0 a1 k, LeO (cardexhelp_Same_string_cardexhelp_Plain_string_1.f k a0 a1) (cardexhelp_Same_string_cardexhelp_Plain_string_1.f (k + 1) a0 a1) := by
 intro a0 a1 k
 have ih0 := cardexhelp_Same_string_cardexhelp_Plain_string_1.mono_l k
 unfold cardexhelp_Same_string_cardexhelp_Plain_string_1.f
 repeat' first
   | (with_reducible exact ih0 _ _ _)
   | (with_reducible exact LeO.refl _)
   | (with_reducible exact LeO.none _)
   | (with_reducible refine LeO.ite ?_ ?_)
   | (with_reducible refine LeO.bind ?_ (fun _ => ?_))
   | exact ih0 _ _ _
   | exact LeO.none _
   | refine LeO.ite ?_ ?_
   | refine LeO.bind ?_ (fun _ => ?_)
set_option maxHeartbeats 8000000 in
set_option maxRecDepth 100000 in
theorem cardexhelp_Same_string_cardexhelp_Plain_string_1.calls (k : Nat) (A0 : Option Addr) (c0 : Nat) (l0 : List ByteArray) (A1 : Option Addr) (c1 : Nat) (l1 : List ByteArray)  (r : Bool) (w : World) (hr0 : Kd.C Kd.string w A0 l0.length l0) (hc0 : l0.length ≤ c0) (hr1 : Kd.C Kd.string w A1 l1.length l1) (hc1 : l1.length ≤ c1) (h : cardexhelp_Same_string_cardexhelp_Plain_string_1.f k l0 l1 = some r) :
  Calls Tryz.prog 24 #[.slice A0 l0.length c0, .slice A1 l1.length c1, .func (.func 25) #[] #[]] w fun e w' => e = .returned (.bool r) ∧ Drawn0 w w' := by
 have HR0 := Aside0.mk hr0
 have HC0 := Aside0.mk hc0
 clear hr0 hc0
 have HR1 := Aside0.mk hr1
 have HC1 := Aside0.mk hc1
 clear hr1 hc1
 have H : (if (l0.length : Int) = (l1.length : Int) then (cardexhelp_Same_string_cardexhelp_Plain_string_1.l0 k l0 l1 0) else (some false)) = some r := h
 clear h
 by_cases c4 : (l0.length : Int) = (l1.length : Int)
 ·rw [if_pos c4] at H
  obtain ⟨c4b0, c4b1⟩ := eqT c4
  have c4b2 : (l0.length == l1.length) = true := by first | simpa using c4 | (simp at c4 ⊢; omega)
  clear c4
  have H' := Aside0.mk H
  clear H
  go_enter Tryz.func24, Tryz.ntmps24
  go_wp2
  repeat (go_quiet (fail); try go_wp2)
  go_loopg [7] k (fun kq v7 w' => ∃ (x7_1 : Int), v7 = .int .i64 x7_1 ∧ Aside0 (cardexhelp_Same_string_cardexhelp_Plain_string_1.l0 kq l0 l1 x7_1 = some r) ∧ Aside0 (kq ≤ k) ∧ Drawn0 w w')
  case atStart => exact ⟨(0), zz1, H', ⟨Nat.le_refl _⟩, zz17⟩
  case round =>
   clear H'
   try clear c1
   try clear p2
   try clear c4
   try clear c4b0
   try clear c4b1
   try clear c4b2
   obtain ⟨x7_1, rfl, HA, HK1, ⟨m1, rfl⟩⟩ := hrel
   cases gk with
   | zero => exact absurd HA.out (by simp [cardexhelp_Same_string_cardexhelp_Plain_string_1.l0])
   | succ k1 =>
    have H := HA.out
    clear HA
    simp only [cardexhelp_Same_string_cardexhelp_Plain_string_1.l0] at H
    by_cases c5 : x7_1 < (l0.length : Int)
    ·rw [if_pos c5] at H
     have c5b0 := decide_eq_true c5
     clear c5
     by_cases c6 : 0 ≤ x7_1
     ·rw [if_pos c6] at H
      have c6b0 := decide_eq_true c6
      clear c6
      by_cases c7 : x7_1 < (l1.length : Int)
      ·rw [if_pos c7] at H
       have c7b0 := decide_eq_true c7
       clear c7
       replace H := Option.bind_eq_some_iff.mp H
       obtain ⟨t278, A80, H⟩ := H
       try dsimp only at H
       have A8 := Aside0.mk A80
       clear A80
       by_cases c9 : t278 = true
       ·subst c9
        have H1 : (cardexhelp_Same_string_cardexhelp_Plain_string_1.l0 k1 l0 l1 (wrap64 (x7_1 + 1))) = some r := by rw [if_pos rfl] at H; exact H
        clear H
        have H := H1
        clear H1
        have H' := Aside0.mk H
        clear H
        have p276 : 0 ≤ (x7_1 : Int) := of_decide_eq_true zz6
        have q276 : x7_1 < (l0.length : Int) := of_decide_eq_true zz6
        obtain ⟨ad276, e276, hx276_0⟩ := Kd.at_string HR0.out x7_1 p276 q276
        cases e276
        replace p276 := eq_true p276
        replace q276 := eq_true q276
        have p277 : 0 ≤ (x7_1 : Int) := of_decide_eq_true zz6
        have q277 : x7_1 < (l1.length : Int) := of_decide_eq_true zz6
        obtain ⟨ad277, e277, hx277_0⟩ := Kd.at_string HR1.out x7_1 p277 q277
        cases e277
        replace p277 := eq_true p277
        replace q277 := eq_true q277
        go_wp2_with (first | (go_at_call 25; (with_reducible refine (cardexhelp_Plain_string_1.calls (rdOf ByteArray.empty l0 x7_1) (rdOf ByteArray.empty l1 x7_1) true _ A8.out).mono ?_); rintro e w' ⟨rfl, ⟨nd, rfl⟩⟩; (try first | exact ⟨rfl, _, World.drewN_drewN _ _ _⟩ | exact ⟨rfl, _, Eq.trans (World.drewN_drewN _ _ _) (congrArg (World.drewN _) (Nat.add_assoc _ _ _))⟩)))
        repeat (go_quiet (first | (go_at_call 25; (with_reducible refine (cardexhelp_Plain_string_1.calls (rdOf ByteArray.empty l0 x7_1) (rdOf ByteArray.empty l1 x7_1) true _ A8.out).mono ?_); rintro e w' ⟨rfl, ⟨nd, rfl⟩⟩; (try first | exact ⟨rfl, _, World.drewN_drewN _ _ _⟩ | exact ⟨rfl, _, Eq.trans (World.drewN_drewN _ _ _) (congrArg (World.drewN _) (Nat.add_assoc _ _ _))⟩))); try go_wp2_with (first | (go_at_call 25; (with_reducible refine (cardexhelp_Plain_string_1.calls (rdOf ByteArray.empty l0 x7_1) (rdOf ByteArray.empty l1 x7_1) true _ A8.out).mono ?_); rintro e w' ⟨rfl, ⟨nd, rfl⟩⟩; (try first | exact ⟨rfl, _, World.drewN_drewN _ _ _⟩ | exact ⟨rfl, _, Eq.trans (World.drewN_drewN _ _ _) (congrArg (World.drewN _) (Nat.add_assoc _ _ _))⟩))))
        go_roundg k1
        case measure => have := HK1.out; omega
        case rel => exact ⟨(wrap64 (x7_1 + 1)), zz1, H', ⟨zz58⟩, zz17⟩
       replace c9 := Bool.eq_false_iff.mpr c9
       subst c9
       have H1 : (some false) = some r := by rw [if_neg (show ¬ (false = true) by decide)] at H; exact H
       clear H
       have H := H1
       clear H1
       obtain rfl := Option.some.inj H
       have p276 : 0 ≤ (x7_1 : Int) := of_decide_eq_true zz6
       have q276 : x7_1 < (l0.length : Int) := of_decide_eq_true zz6
       obtain ⟨ad276, e276, hx276_0⟩ := Kd.at_string HR0.out x7_1 p276 q276
       cases e276
       replace p276 := eq_true p276
       replace q276 := eq_true q276
       have p277 : 0 ≤ (x7_1 : Int) := of_decide_eq_true zz6
       have q277 : x7_1 < (l1.length : Int) := of_decide_eq_true zz6
       obtain ⟨ad277, e277, hx277_0⟩ := Kd.at_string HR1.out x7_1 p277 q277
       cases e277
       replace p277 := eq_true p277
       replace q277 := eq_true q277
       go_wp2_with (first | (go_at_call 25; (with_reducible refine (cardexhelp_Plain_string_1.calls (rdOf ByteArray.empty l0 x7_1) (rdOf ByteArray.empty l1 x7_1) false _ A8.out).mono ?_); rintro e w' ⟨rfl, ⟨nd, rfl⟩⟩; (try first | exact ⟨rfl, _, World.drewN_drewN _ _ _⟩ | exact ⟨rfl, _, Eq.trans (World.drewN_drewN _ _ _) (congrArg (World.drewN _) (Nat.add_assoc _ _ _))⟩)))
       repeat (go_quiet (first | (go_at_call 25; (with_reducible refine (cardexhelp_Plain_string_1.calls (rdOf ByteArray.empty l0 x7_1) (rdOf ByteArray.empty l1 x7_1) false _ A8.out).mono ?_); rintro e w' ⟨rfl, ⟨nd, rfl⟩⟩; (try first | exact ⟨rfl, _, World.drewN_drewN _ _ _⟩ | exact ⟨rfl, _, Eq.trans (World.drewN_drewN _ _ _) (congrArg (World.drewN _) (Nat.add_assoc _ _ _))⟩))); try go_wp2_with (first | (go_at_call 25; (with_reducible refine (cardexhelp_Plain_string_1.calls (rdOf ByteArray.empty l0 x7_1) (rdOf ByteArray.empty l1 x7_1) false _ A8.out).mono ?_); rintro e w' ⟨rfl, ⟨nd, rfl⟩⟩; (try first | exact ⟨rfl, _, World.drewN_drewN _ _ _⟩ | exact ⟨rfl, _, Eq.trans (World.drewN_drewN _ _ _) (congrArg (World.drewN _) (Nat.add_assoc _ _ _))⟩))))
       go_ret
       exact ⟨zz1, zz17⟩
      rw [if_neg c7] at H
      exact absurd H (by simp)
     rw [if_neg c6] at H
     exact absurd H (by simp)
    rw [if_neg c5] at H
    have c5b0 := decide_eq_false c5
    clear c5
    obtain rfl := Option.some.inj H
    go_wp2
    repeat (go_quiet (fail); try go_wp2)
    go_ret
    exact ⟨zz1, zz17⟩
 rw [if_neg c4] at H
 obtain ⟨c4b0, c4b1⟩ := eqF c4
 have c4b2 : (l0.length == l1.length) = false := by first | simpa using c4 | (simp at c4 ⊢; omega)
 obtain rfl := Option.some.inj H
 go_enter Tryz.func24, Tryz.ntmps24
 go_wp2
 repeat (go_quiet (fail); try go_wp2)
 go_ret
 exact ⟨zz1, zz17⟩
def cardexhelp_Plain_string.f (k : Nat) (l0 : List ByteArray) (l1 : List ByteArray) : Option (Bool) := (cardexhelp_Same_string_cardexhelp_Plain_string_1.f k l0 l1).bind fun t279 => (some t279)
theorem cardexhelp_Plain_string.mono : ∀ a0 a1 k, LeO (cardexhelp_Plain_string.f k a0 a1) (cardexhelp_Plain_string.f (k + 1) a0 a1) := by
 intro a0 a1 k
 unfold cardexhelp_Plain_string.f
 repeat' first
   | (with_reducible exact cardexhelp_Same_string_cardexhelp_Plain_string_1.mono _ _ _)
   | (with_reducible exact LeO.refl _)
   | (with_reducible exact LeO.none _)
   | (with_reducible refine LeO.ite ?_ ?_)
   | (with_reducible refine LeO.bind ?_ (fun _ => ?_))
   | exact cardexhelp_Same_string_cardexhelp_Plain_string_1.mono _ _ _
   | exact LeO.none _
   | refine LeO.ite ?_ ?_
   | refine LeO.bind ?_ (fun _ => ?_)
set_option maxHeartbeats 8000000 in
set_option maxRecDepth 100000 in
theorem cardexhelp_Plain_string.calls (k : Nat) (A0 : Option Addr) (c0 : Nat) (l0 : List ByteArray) (A1 : Option Addr) (c1 : Nat) (l1 : List ByteArray) (r : Bool) (w : World) (hr0 : Kd.C Kd.string w A0 l0.length l0) (hc0 : l0.length ≤ c0) (hr1 : Kd.C Kd.string w A1 l1.length l1) (hc1 : l1.length ≤ c1) (h : cardexhelp_Plain_string.f k l0 l1 = some r) :
  Calls Tryz.prog 11 #[.slice A0 l0.length c0, .slice A1 l1.length c1] w fun e w' => e = .returned (.bool r) ∧ Drawn0 w w' := by
 have HR0 := Aside0.mk hr0
 have HC0 := Aside0.mk hc0
 clear hr0 hc0
 have HR1 := Aside0.mk hr1
 have HC1 := Aside0.mk hc1
 clear hr1 hc1
 have H : ((cardexhelp_Same_string_cardexhelp_Plain_string_1.f k l0 l1).bind fun t279 => (some t279)) = some r := h
 clear h
 replace H := Option.bind_eq_some_iff.mp H
 obtain ⟨t279, A30, H⟩ := H
 try dsimp only at H
 have A3 := Aside0.mk A30
 clear A30
 obtain rfl := Option.some.inj H
 go_enter Tryz.func11, Tryz.ntmps11
 go_wp2_with (first | ((with_reducible refine gc 24 ?_); refine gL (some 7) Tryz.func24 #[.slice A0 l0.length c0, .slice A1 l1.length c1, .func (.func 25) #[] #[]] ?_; (with_reducible refine (cardexhelp_Same_string_cardexhelp_Plain_string_1.calls k _ _ l0 _ _ l1  t279 _ ?side1 ?side2 ?side3 ?side4 A3.out).mono ?_); (case side1 => exact (by repeat (first | exact HR0.out | (with_reducible refine Kd.C_alloc ?_ _) | (with_reducible refine Kd.C_drewN ?_ _) | (with_reducible refine Kd.C_drew ?_)))); (case side2 => exact HC0.out); (case side3 => exact (by repeat (first | exact HR1.out | (with_reducible refine Kd.C_alloc ?_ _) | (with_reducible refine Kd.C_drewN ?_ _) | (with_reducible refine Kd.C_drew ?_)))); (case side4 => exact HC1.out); rintro e w' ⟨rfl, ⟨nd, rfl⟩⟩; refine ⟨_, rfl, ?_⟩))
 go_ret
 exact ⟨zz1, zz17⟩
def item_Groups_1.f (a0 : ByteArray) (a1 : ByteArray) : Option (Bool) := some (Op.bytesLess a0.toList a1.toList)
set_option maxHeartbeats 8000000 in
set_option maxRecDepth 100000 in
theorem item_Groups_1.calls (a0 : ByteArray) (a1 : ByteArray) (r : Bool) (w : World) (h : item_Groups_1.f a0 a1 = some r) :
  Calls Tryz.prog 28 #[.string a0, .string a1] w fun e w' => e = .returned (.bool r) ∧ Drawn0 w w' := by
 have H : (some (Op.bytesLess a0.toList a1.toList)) = some r := h
 clear h
 obtain rfl := Option.some.inj H
 go_enter Tryz.func28, Tryz.ntmps28
 go_wp2
 go_ret
 exact ⟨zz1, zz17⟩
theorem drawn_below {w w' : World} (h : Drawn0 w w') : Below w.heap.size w w' := h.below
def cmpS (x y : ByteArray) : Int := if Op.bytesLess x.toList y.toList = true then -1 else if Op.bytesLess y.toList x.toList = true then 1 else 0
set_option maxHeartbeats 4000000 in
set_option maxRecDepth 100000 in
theorem item_sorted_string_1.hof (x y : ByteArray) (gb : Nat) (w : World) (hbox : w.heap[gb]? = some (.cells #[.func (.func 28) #[] #[]] 57 (0, 0))) :
  Calls Tryz.prog 40 #[.string x, .string y, .pointer (some ⟨gb, 0, none⟩)] w fun e w' => e = .returned (.int .i64 (cmpS x y)) ∧ Below w.heap.size w w' := by
 have hF : IsFn Tryz.prog 28 := ⟨⟨_, Tryz.func28, zz34, rfl⟩⟩
 have H1 := Aside0.mk (fun W : World => item_Groups_1.calls x y (Op.bytesLess x.toList y.toList) W rfl)
 have H2 := Aside0.mk (fun W : World => item_Groups_1.calls y x (Op.bytesLess y.toList x.toList) W rfl)
 have hc : w.cell? ⟨gb, 0, none⟩ = some (.func (.func 28) #[] #[]) := (blk_cell hbox 0).trans rfl
 have HBX := Aside0.mk hbox
 clear hbox
 unfold cmpS
 cases h1 : Op.bytesLess x.toList y.toList with
 | true =>
  rw [h1] at H1
  go_enter Tryz.func40, Tryz.ntmps40
  go_wp2_with (first | (go_at_call 28; (with_reducible refine (H1.out _).mono ?_); rintro e w4 ⟨rfl, hb⟩; have HB := Aside0.mk (drawn_below hb); have hc := (blk_cell (blk_below HBX.out (drawn_below hb)) 0).trans (rfl : _ = some (Value.func (.func 28) #[] #[])); clear hb))
  go_ret
  exact ⟨rfl, HB.out⟩
 | false =>
  rw [h1] at H1
  cases h2 : Op.bytesLess y.toList x.toList with
  | true =>
   rw [h2] at H2
   go_enter Tryz.func40, Tryz.ntmps40
   go_wp2_with (first | (go_at_call 28; (with_reducible refine (H1.out _).mono ?_); rintro e w4 ⟨rfl, hb⟩; have HB := Aside0.mk (drawn_below hb); have hc := (blk_cell (blk_below HBX.out (drawn_below hb)) 0).trans (rfl : _ = some (Value.func (.func 28) #[] #[])); clear hb) | (go_at_call 28; (with_reducible refine (H2.out _).mono ?_); rintro e w5 ⟨rfl, hb⟩; have HB2 := Aside0.mk (below2 HB.out (drawn_below hb)); clear hb))
   go_ret
   exact ⟨rfl, HB2.out⟩
  | false =>
   rw [h2] at H2
   go_enter Tryz.func40, Tryz.ntmps40
   go_wp2_with (first | (go_at_call 28; (with_reducible refine (H1.out _).mono ?_); rintro e w4 ⟨rfl, hb⟩; have HB := Aside0.mk (drawn_below hb); have hc := (blk_cell (blk_below HBX.out (drawn_below hb)) 0).trans (rfl : _ = some (Value.func (.func 28) #[] #[])); clear hb) | (go_at_call 28; (with_reducible refine (H2.out _).mono ?_); rintro e w5 ⟨rfl, hb⟩; have HB2 := Aside0.mk (below2 HB.out (drawn_below hb)); clear hb))
   go_ret
   exact ⟨rfl, HB2.out⟩
def sA : ByteArray := ⟨#[97]⟩
def sB : ByteArray := ⟨#[98]⟩
set_option maxHeartbeats 4000000 in
set_option maxRecDepth 100000 in
theorem slices_insertionSortCmpFunc_string.hof (g gb cap base : Nat) (w : World) (hR : Kd.string.R 9 w base (fun _ => True) (.slice (some ⟨g, 0, none⟩) 3 cap) [sB, sA, sB]) (hbase : base ≤ w.heap.size) (hbox : w.heap[gb]? = some (.cells #[.func (.func 28) #[] #[]] 57 (0, 0))) :
  Calls Tryz.prog 76 #[.slice (some ⟨g, 0, none⟩) 3 cap, .int .i64 0, .int .i64 3, .func (.func 40) #[] #[.pointer (some ⟨gb, 0, none⟩)]] w fun e w' => e = .returned (.tuple #[]) ∧ Kd.string.R 9 w' base (fun _ => True) (.slice (some ⟨g, 0, none⟩) 3 cap) [sA, sB, sB] ∧ Below base w w' := by
 have hF : IsFn Tryz.prog 40 := ⟨⟨_, Tryz.func40, zz34, rfl⟩⟩
 have hgb : gb ≠ g := by
  have := Kd.R_ne hR hbox (by decide)
  intro e
  exact this (by rw [e]; rfl)
 have hg : base ≤ g := Kd.R_base hR g rfl
 have HR := Aside0.mk hR
 have HX := Aside0.mk hbox
 have HG := Aside0.mk hg
 have HN := Aside0.mk hgb
 have HZ := Aside0.mk hbase
 have HB0 := Aside0.mk (Below.refl base w)
 clear hR hbox hg hgb hbase
 go_enter Tryz.func76, Tryz.ntmps76
 go_wp2
 go_loopg [8] 3 (fun gk v8 wr => ∃ (i : Int) (row : List ByteArray), v8 = .int .i64 i ∧ ((i = 1 ∧ row = [sB, sA, sB] ∧ gk = 3) ∨ (i = 2 ∧ row = [sA, sB, sB] ∧ gk = 2) ∨ (i = 3 ∧ row = [sA, sB, sB])) ∧ Aside0 (Kd.string.R 9 wr base (fun _ => True) (.slice (some ⟨g, 0, none⟩) 3 cap) row) ∧ Aside0 (Below base w wr) ∧ Aside0 (base ≤ wr.heap.size) ∧ Aside0 (wr.heap[gb]? = some (.cells #[.func (.func 28) #[] #[]] 57 (0, 0))))
 case atStart => exact ⟨1, _, rfl, .inl ⟨rfl, rfl, rfl⟩, HR, HB0, HZ, HX⟩
 case round =>
  clear HR HB0 HZ HX
  obtain ⟨i, row, rfl, hcase, HR, HB, HZ, HX⟩ := hrel
  rcases hcase with ⟨rfl, rfl, rfl⟩ | ⟨rfl, rfl, rfl⟩ | ⟨rfl, rfl⟩
  ·go_wp2
   go_loopg [9] 2 (fun gk v9 wr => ∃ (j : Int) (row : List ByteArray), v9 = .int .i64 j ∧ ((j = 1 ∧ row = [sB, sA, sB] ∧ gk = 2) ∨ (j = 0 ∧ row = [sA, sB, sB])) ∧ Aside0 (Kd.string.R 9 wr base (fun _ => True) (.slice (some ⟨g, 0, none⟩) 3 cap) row) ∧ Aside0 (Below base w wr) ∧ Aside0 (base ≤ wr.heap.size) ∧ Aside0 (wr.heap[gb]? = some (.cells #[.func (.func 28) #[] #[]] 57 (0, 0))))
   case atStart => exact ⟨1, _, rfl, .inl ⟨rfl, rfl, rfl⟩, HR, HB, HZ, HX⟩
   case round =>
    clear HR HB HZ HX
    obtain ⟨j, row, rfl, hcase, HR2, HB2, HZ2, HX2⟩ := hrel
    rcases hcase with ⟨rfl, rfl, rfl⟩ | ⟨rfl, rfl⟩
    ·have hc1 : _ = some (Value.string sA) := (Kd.R_cell (d := ByteArray.empty) HR2.out 1 (by decide) (by decide)).1
     have hc0 : _ = some (Value.string sB) := (Kd.R_cell (d := ByteArray.empty) HR2.out 0 (by decide) (by decide)).1
     have e1 : (1 : Int).toNat = 1 := rfl
     have e0 : (0 : Int).toNat = 0 := rfl
     rw [e1] at hc1
     rw [e0] at hc0
     have hcmp : cmpS sA sB = -1 := by decide +kernel
     have hw0 : wrap64 0 = 0 := by decide +kernel
     go_wp2_with fail
     refine start_ (n := 17) (S := fun w' => w'.cell? ⟨g, 1, none⟩ = some (.string sA) ∧ w'.cell? ⟨g, 0, none⟩ = some (.string sB)) (ds := []) #[false, false, false, false, false, false, false, false, false, false, false, false, false, false, false, false, false] zz34 rfl rfl ⟨hc1, hc0⟩ (fun hHeld => ?_)
     refine pure_ (i := 0) (N := some 18) (v := ?_) (a' := ?_) #[true, false, false, false, false, false, false, false, false, false, false, false, false, false, false, false, false] rfl rfl zz34 (fun _ _ _ h => h) (Or.inl ⟨by rfl, ?_⟩) ?_ ?_
     rotate_left
     ·intro w'
      go_simp
      with_reducible rfl
     rotate_left
     ·simp only [Act.put, setIfInBounds_toArray, set_cons_zero, set_cons_succ, i64_w, i32_w]
      rfl
     refine pure_ (i := 1) (N := some 19) (v := ?_) (a' := ?_) #[true, true, false, false, false, false, false, false, false, false, false, false, false, false, false, false, false] rfl rfl zz34 (fun _ _ _ h => h) (Or.inl ⟨by rfl, ?_⟩) ?_ ?_
     rotate_left
     ·intro w'
      go_simp
      with_reducible rfl
     rotate_left
     ·simp only [Act.put, setIfInBounds_toArray, set_cons_zero, set_cons_succ, i64_w, i32_w]
      rfl
     refine pure_ (i := 2) (N := some 20) (v := ?_) (a' := ?_) #[true, true, true, false, false, false, false, false, false, false, false, false, false, false, false, false, false] rfl rfl zz34 (fun _ _ _ h => h) (Or.inl ⟨by rfl, ?_⟩) ?_ ?_
     rotate_left
     ·intro w'
      go_simp
      with_reducible rfl
     rotate_left
     ·simp only [Act.put, setIfInBounds_toArray, set_cons_zero, set_cons_succ, i64_w, i32_w]
      rfl
     refine pure_ (i := 3) (N := some 21) (v := ?_) (a' := ?_) #[true, true, true, true, false, false, false, false, false, false, false, false, false, false, false, false, false] rfl rfl zz34 (fun _ _ _ h => h) (Or.inl ⟨by rfl, ?_⟩) ?_ ?_
     rotate_left
     ·intro w'
      go_simp
      with_reducible rfl
     rotate_left
     ·simp only [Act.put, setIfInBounds_toArray, set_cons_zero, set_cons_succ, i64_w, i32_w]
      rfl
     refine pure_ (i := 4) (N := some 22) (v := ?_) (a' := ?_) #[true, true, true, true, true, false, false, false, false, false, false, false, false, false, false, false, false] rfl rfl zz34 (fun _ _ _ h => h) (Or.inl ⟨by rfl, ?_⟩) ?_ ?_
     rotate_left
     ·intro w'
      go_simp
      with_reducible rfl
     rotate_left
     ·simp only [Act.put, setIfInBounds_toArray, set_cons_zero, set_cons_succ, i64_w, i32_w]
      rfl
     refine pure_ (i := 5) (N := some 23) (v := ?_) (a' := ?_) #[true, true, true, true, true, true, false, false, false, false, false, false, false, false, false, false, false] rfl rfl zz34 (fun _ _ _ h => h) (Or.inl ⟨by rfl, ?_⟩) ?_ ?_
     rotate_left
     ·intro w'
      go_simp
      with_reducible rfl
     rotate_left
     ·simp only [Act.put, setIfInBounds_toArray, set_cons_zero, set_cons_succ, i64_w, i32_w]
      rfl
     refine pure_ (i := 6) (N := some 24) (v := ?_) (a' := ?_) #[true, true, true, true, true, true, true, false, false, false, false, false, false, false, false, false, false] rfl rfl zz34 (fun _ _ _ h => h) (Or.inl ⟨by rfl, ?_⟩) ?_ ?_
     rotate_left
     ·intro w'
      go_simp
      with_reducible rfl
     rotate_left
     ·simp only [Act.put, setIfInBounds_toArray, set_cons_zero, set_cons_succ, i64_w, i32_w]
      rfl
     refine pure_ (i := 7) (N := some 25) (v := ?_) (a' := ?_) #[true, true, true, true, true, true, true, true, false, false, false, false, false, false, false, false, false] rfl rfl zz34 (fun _ _ _ h => h) (Or.inl ⟨by rfl, ?_⟩) ?_ ?_
     rotate_left
     ·intro w'
      go_simp
      with_reducible rfl
     rotate_left
     ·simp only [Act.put, setIfInBounds_toArray, set_cons_zero, set_cons_succ, i64_w, i32_w]
      rfl
     refine pure_ (i := 9) (N := some 27) (v := ?_) (a' := ?_) #[true, true, true, true, true, true, true, true, false, true, false, false, false, false, false, false, false] rfl rfl zz34 (fun _ _ _ h => h) (Or.inl ⟨by rfl, ?_⟩) ?_ ?_
     rotate_left
     ·intro w'
      go_simp
      with_reducible rfl
     rotate_left
     ·simp only [Act.put, setIfInBounds_toArray, set_cons_zero, set_cons_succ, i64_w, i32_w]
      rfl
     refine pure_ (i := 10) (N := some 28) (v := ?_) (a' := ?_) #[true, true, true, true, true, true, true, true, false, true, true, false, false, false, false, false, false] rfl rfl zz34 (fun _ _ _ h => h) (Or.inl ⟨by rfl, ?_⟩) ?_ ?_
     rotate_left
     ·intro w'
      go_simp
      with_reducible rfl
     rotate_left
     ·simp only [Act.put, setIfInBounds_toArray, set_cons_zero, set_cons_succ, i64_w, i32_w]
      rfl
     refine pure_ (i := 11) (N := some 29) (v := ?_) (a' := ?_) #[true, true, true, true, true, true, true, true, false, true, true, true, false, false, false, false, false] rfl rfl zz34 (fun _ _ _ h => h) (Or.inl ⟨by rfl, ?_⟩) ?_ ?_
     rotate_left
     ·intro w'
      go_simp
      with_reducible rfl
     rotate_left
     ·simp only [Act.put, setIfInBounds_toArray, set_cons_zero, set_cons_succ, i64_w, i32_w]
      rfl
     refine pure_ (i := 12) (N := some 30) (v := ?_) (a' := ?_) #[true, true, true, true, true, true, true, true, false, true, true, true, true, false, false, false, false] rfl rfl zz34 (fun _ _ _ h => h) (Or.inl ⟨by rfl, ?_⟩) ?_ ?_
     rotate_left
     ·intro w'
      go_simp
      with_reducible rfl
     rotate_left
     ·simp only [Act.put, setIfInBounds_toArray, set_cons_zero, set_cons_succ, i64_w, i32_w]
      rfl
     refine take_ (i := 8) (N := some 26) (v := ?_) (a' := ?_) #[true, true, true, true, true, true, true, true, true, true, true, true, true, false, false, false, false] rfl rfl zz34 (fun _ _ _ h => h) (Or.inl ⟨by rfl, ?_⟩) hHeld ?_ ?_
     rotate_left
     ·rintro w' ⟨s0, s1⟩
      go_simp
      with_reducible rfl
     rotate_left
     ·simp only [Act.put, setIfInBounds_toArray, set_cons_zero, set_cons_succ, i64_w, i32_w]
      rfl
     refine take_ (i := 13) (N := some 31) (v := ?_) (a' := ?_) #[true, true, true, true, true, true, true, true, true, true, true, true, true, true, false, false, false] rfl rfl zz34 (fun _ _ _ h => h) (Or.inl ⟨by rfl, ?_⟩) hHeld ?_ ?_
     rotate_left
     ·rintro w' ⟨s0, s1⟩
      go_simp
      with_reducible rfl
     rotate_left
     ·simp only [Act.put, setIfInBounds_toArray, set_cons_zero, set_cons_succ, i64_w, i32_w]
      rfl
     refine one_ (i := 14) (N := some 32) #[true, true, true, true, true, true, true, true, true, true, true, true, true, true, true, false, false] rfl rfl zz34 (by decide) (fun K hK => ?_)
     refine goesR rfl rfl hF #[.string sA, .string sB] (by rfl) rfl zz39 ?_
     refine calls_of_args (args' := #[.string sA, .string sB, .pointer (some ⟨gb, 0, none⟩)]) rfl ?_
     with_reducible refine (item_sorted_string_1.hof sA sB gb _ (blk_drew HX2.out)).mono ?_
     rintro e w4 ⟨rfl, hb⟩
     refine ⟨_, rfl, ?_⟩
     have HR4 := Aside0.mk (Kd.R_below (Kd.R_drew HR2.out) hb)
     have HX4 := Aside0.mk (blk_below (blk_drew HX2.out) hb)
     have HB4 := Aside0.mk (pw_below_grown (below_drew HB2.out) none HZ2.out (grown_of_below hb none) (fun _ hk => by cases hk))
     have HZ4 := Aside0.mk (Nat.le_trans (show base ≤ wr.drew.heap.size from HZ2.out) (below_size hb))
     rw [hcmp]
     refine hK.out _ _ ⟨pw_cell_below hb (hHeld.1), pw_cell_below hb (hHeld.2)⟩ (fun hHeld => ?_)
     clear hK K
     refine norm_ (a' := ?_) ?_ ?_
     rotate_left
     ·show Act.put _ (some 32) _ = _
      simp only [Act.put, setIfInBounds_toArray, set_cons_zero, set_cons_succ, i64_w, i32_w]
      rfl
     refine pure_ (i := 15) (N := some 33) (v := ?_) (a' := ?_) #[true, true, true, true, true, true, true, true, true, true, true, true, true, true, true, true, false] rfl rfl zz34 (fun _ _ _ h => h) (Or.inl ⟨by rfl, ?_⟩) ?_ ?_
     rotate_left
     ·intro w'
      go_simp
      with_reducible rfl
     rotate_left
     ·simp only [Act.put, setIfInBounds_toArray, set_cons_zero, set_cons_succ, i64_w, i32_w]
      rfl
     refine pure_ (i := 16) (N := some 34) (v := ?_) (a' := ?_) #[true, true, true, true, true, true, true, true, true, true, true, true, true, true, true, true, true] rfl rfl zz34 (fun _ _ _ h => h) (Or.inl ⟨by rfl, ?_⟩) ?_ ?_
     rotate_left
     ·intro w'
      go_simp
      with_reducible rfl
     rotate_left
     ·simp only [Act.put, setIfInBounds_toArray, set_cons_zero, set_cons_succ, i64_w, i32_w]
      rfl
     refine done_ zz34 ?_
     clear hHeld hc1 hc0 HR2 HB2 HZ2 HX2
     obtain ⟨hc0, hf0⟩ : w4.cell? ⟨g, 0, none⟩ = some (.string sB) ∧ w4.frozen? ⟨g, 0, none⟩ = false := Kd.R_cell (d := ByteArray.empty) HR4.out 0 (by decide) (by decide)
     obtain ⟨hc1, hf1⟩ : w4.cell? ⟨g, 1, none⟩ = some (.string sA) ∧ w4.frozen? ⟨g, 1, none⟩ = false := Kd.R_cell (d := ByteArray.empty) HR4.out 1 (by decide) (by decide)
     go_wp2_with fail
     refine start_ (n := 18) (S := fun w' => w'.cell? ⟨g, 1, none⟩ = some (.string sA) ∧ w'.cell? ⟨g, 0, none⟩ = some (.string sB)) (ds := [15, 17]) #[false, false, false, false, false, false, false, false, false, false, false, false, false, false, false, false, false, false] zz34 rfl rfl ⟨hc1, hc0⟩ (fun hHeld => ?_)
     refine pure_ (i := 0) (N := some 37) (v := ?_) (a' := ?_) #[true, false, false, false, false, false, false, false, false, false, false, false, false, false, false, false, false, false] rfl rfl zz34 (fun _ _ _ h => h) (Or.inl ⟨by rfl, ?_⟩) ?_ ?_
     rotate_left
     ·intro w'
      go_simp
      with_reducible rfl
     rotate_left
     ·simp only [Act.put, setIfInBounds_toArray, set_cons_zero, set_cons_succ, i64_w, i32_w]
      rfl
     refine pure_ (i := 1) (N := some 38) (v := ?_) (a' := ?_) #[true, true, false, false, false, false, false, false, false, false, false, false, false, false, false, false, false, false] rfl rfl zz34 (fun _ _ _ h => h) (Or.inl ⟨by rfl, ?_⟩) ?_ ?_
     rotate_left
     ·intro w'
      go_simp
      with_reducible rfl
     rotate_left
     ·simp only [Act.put, setIfInBounds_toArray, set_cons_zero, set_cons_succ, i64_w, i32_w]
      rfl
     refine pure_ (i := 2) (N := some 39) (v := ?_) (a' := ?_) #[true, true, true, false, false, false, false, false, false, false, false, false, false, false, false, false, false, false] rfl rfl zz34 (fun _ _ _ h => h) (Or.inl ⟨by rfl, ?_⟩) ?_ ?_
     rotate_left
     ·intro w'
      go_simp
      with_reducible rfl
     rotate_left
     ·simp only [Act.put, setIfInBounds_toArray, set_cons_zero, set_cons_succ, i64_w, i32_w]
      rfl
     refine pure_ (i := 3) (N := some 40) (v := ?_) (a' := ?_) #[true, true, true, true, false, false, false, false, false, false, false, false, false, false, false, false, false, false] rfl rfl zz34 (fun _ _ _ h => h) (Or.inl ⟨by rfl, ?_⟩) ?_ ?_
     rotate_left
     ·intro w'
      go_simp
      with_reducible rfl
     rotate_left
     ·simp only [Act.put, setIfInBounds_toArray, set_cons_zero, set_cons_succ, i64_w, i32_w]
      rfl
     refine pure_ (i := 4) (N := some 41) (v := ?_) (a' := ?_) #[true, true, true, true, true, false, false, false, false, false, false, false, false, false, false, false, false, false] rfl rfl zz34 (fun _ _ _ h => h) (Or.inl ⟨by rfl, ?_⟩) ?_ ?_
     rotate_left
     ·intro w'
      go_simp
      with_reducible rfl
     rotate_left
     ·simp only [Act.put, setIfInBounds_toArray, set_cons_zero, set_cons_succ, i64_w, i32_w]
      rfl
     refine pure_ (i := 5) (N := some 42) (v := ?_) (a' := ?_) #[true, true, true, true, true, true, false, false, false, false, false, false, false, false, false, false, false, false] rfl rfl zz34 (fun _ _ _ h => h) (Or.inl ⟨by rfl, ?_⟩) ?_ ?_
     rotate_left
     ·intro w'
      go_simp
      with_reducible rfl
     rotate_left
     ·simp only [Act.put, setIfInBounds_toArray, set_cons_zero, set_cons_succ, i64_w, i32_w]
      rfl
     refine pure_ (i := 6) (N := some 43) (v := ?_) (a' := ?_) #[true, true, true, true, true, true, true, false, false, false, false, false, false, false, false, false, false, false] rfl rfl zz34 (fun _ _ _ h => h) (Or.inl ⟨by rfl, ?_⟩) ?_ ?_
     rotate_left
     ·intro w'
      go_simp
      with_reducible rfl
     rotate_left
     ·simp only [Act.put, setIfInBounds_toArray, set_cons_zero, set_cons_succ, i64_w, i32_w]
      rfl
     refine pure_ (i := 7) (N := some 44) (v := ?_) (a' := ?_) #[true, true, true, true, true, true, true, true, false, false, false, false, false, false, false, false, false, false] rfl rfl zz34 (fun _ _ _ h => h) (Or.inl ⟨by rfl, ?_⟩) ?_ ?_
     rotate_left
     ·intro w'
      go_simp
      with_reducible rfl
     rotate_left
     ·simp only [Act.put, setIfInBounds_toArray, set_cons_zero, set_cons_succ, i64_w, i32_w]
      rfl
     refine pure_ (i := 8) (N := some 45) (v := ?_) (a' := ?_) #[true, true, true, true, true, true, true, true, true, false, false, false, false, false, false, false, false, false] rfl rfl zz34 (fun _ _ _ h => h) (Or.inl ⟨by rfl, ?_⟩) ?_ ?_
     rotate_left
     ·intro w'
      go_simp
      with_reducible rfl
     rotate_left
     ·simp only [Act.put, setIfInBounds_toArray, set_cons_zero, set_cons_succ, i64_w, i32_w]
      rfl
     refine pure_ (i := 10) (N := some 47) (v := ?_) (a' := ?_) #[true, true, true, true, true, true, true, true, true, false, true, false, false, false, false, false, false, false] rfl rfl zz34 (fun _ _ _ h => h) (Or.inl ⟨by rfl, ?_⟩) ?_ ?_
     rotate_left
     ·intro w'
      go_simp
      with_reducible rfl
     rotate_left
     ·simp only [Act.put, setIfInBounds_toArray, set_cons_zero, set_cons_succ, i64_w, i32_w]
      rfl
     refine pure_ (i := 11) (N := some 48) (v := ?_) (a' := ?_) #[true, true, true, true, true, true, true, true, true, false, true, true, false, false, false, false, false, false] rfl rfl zz34 (fun _ _ _ h => h) (Or.inl ⟨by rfl, ?_⟩) ?_ ?_
     rotate_left
     ·intro w'
      go_simp
      with_reducible rfl
     rotate_left
     ·simp only [Act.put, setIfInBounds_toArray, set_cons_zero, set_cons_succ, i64_w, i32_w]
      rfl
     refine pure_ (i := 12) (N := some 49) (v := ?_) (a' := ?_) #[true, true, true, true, true, true, true, true, true, false, true, true, true, false, false, false, false, false] rfl rfl zz34 (fun _ _ _ h => h) (Or.inl ⟨by rfl, ?_⟩) ?_ ?_
     rotate_left
     ·intro w'
      go_simp
      with_reducible rfl
     rotate_left
     ·simp only [Act.put, setIfInBounds_toArray, set_cons_zero, set_cons_succ, i64_w, i32_w]
      rfl
     refine take_ (i := 9) (N := some 46) (v := ?_) (a' := ?_) #[true, true, true, true, true, true, true, true, true, true, true, true, true, false, false, false, false, false] rfl rfl zz34 (fun _ _ _ h => h) (Or.inl ⟨by rfl, ?_⟩) hHeld ?_ ?_
     rotate_left
     ·rintro w' ⟨s0, s1⟩
      go_simp
      with_reducible rfl
     rotate_left
     ·simp only [Act.put, setIfInBounds_toArray, set_cons_zero, set_cons_succ, i64_w, i32_w]
      rfl
     refine take_ (i := 13) (N := some 50) (v := ?_) (a' := ?_) #[true, true, true, true, true, true, true, true, true, true, true, true, true, true, false, false, false, false] rfl rfl zz34 (fun _ _ _ h => h) (Or.inl ⟨by rfl, ?_⟩) hHeld ?_ ?_
     rotate_left
     ·rintro w' ⟨s0, s1⟩
      go_simp
      with_reducible rfl
     rotate_left
     ·simp only [Act.put, setIfInBounds_toArray, set_cons_zero, set_cons_succ, i64_w, i32_w]
      rfl
     refine pure_ (i := 14) (N := some 51) (v := ?_) (a' := ?_) #[true, true, true, true, true, true, true, true, true, true, true, true, true, true, true, false, false, false] rfl rfl zz34 (fun _ _ _ h => h) (Or.inl ⟨by rfl, ?_⟩) ?_ ?_
     rotate_left
     ·intro w'
      go_simp
      with_reducible rfl
     rotate_left
     ·simp only [Act.put, setIfInBounds_toArray, set_cons_zero, set_cons_succ, i64_w, i32_w]
      rfl
     refine last_ (i := 15) (N := none) #[true, true, true, true, true, true, true, true, true, true, true, true, true, true, true, true, false, false] rfl rfl zz34 (by decide) (fun K hK => ?_)
     refine skip_ (w1 := ?_) (by rfl) rfl ?_ ?_
     rotate_left
     ·go_simp
      rfl
     refine hK.out _ _ ?_
     clear hK K
     refine pure_ (i := 16) (N := some 52) (v := ?_) (a' := ?_) #[true, true, true, true, true, true, true, true, true, true, true, true, true, true, true, true, true, false] rfl rfl zz34 (fun _ _ _ h => h) (Or.inl ⟨by rfl, ?_⟩) ?_ ?_
     rotate_left
     ·intro w'
      go_simp
      with_reducible rfl
     rotate_left
     ·simp only [Act.put, setIfInBounds_toArray, set_cons_zero, set_cons_succ, i64_w, i32_w]
      rfl
     refine last_ (i := 17) (N := none) #[true, true, true, true, true, true, true, true, true, true, true, true, true, true, true, true, true, true] rfl rfl zz34 (by decide) (fun K hK => ?_)
     refine skip_ (w1 := ?_) (by rfl) rfl ?_ ?_
     rotate_left
     ·go_simp
      rfl
     refine hK.out _ _ ?_
     clear hK K
     refine done_ zz34 ?_
     have hr4 : Kd.string.R 9 (w4.setCell ⟨g, 1, none⟩ (.string sB)) base (fun _ => True) (.slice (some ⟨g, 0, none⟩) [sB, sB, sB].length cap) [sB, sB, sB] := (Kd.R_put HR4.out 1 sB).1
     have hr5 := Kd.R_drew (Kd.R_put hr4 0 sA).1
     have hb5 := below_drew1 ((HB4.out.setCell (p := ⟨g, 1, none⟩) HG.out (.string sB)).setCell (p := ⟨g, 0, none⟩) HG.out (.string sA))
     have hx5 := blk_drew (blk_far (p := ⟨g, 0, none⟩) (blk_far (p := ⟨g, 1, none⟩) HX4.out HN.out (.string sB)) HN.out (.string sA))
     have hz5 : base ≤ (((w4.setCell ⟨g, 1, none⟩ (.string sB)).setCell ⟨g, 0, none⟩ (.string sA)).drew).heap.size := by have := HZ4.out; simpa [World.drew, World.setCell] using this
     obtain ⟨w5, hw5⟩ : ∃ W, W = ((w4.setCell ⟨g, 1, none⟩ (.string sB)).setCell ⟨g, 0, none⟩ (.string sA)).drew := ⟨_, rfl⟩
     have hr5' : Kd.string.R 9 w5 base (fun _ => True) (.slice (some ⟨g, 0, none⟩) 3 cap) [sA, sB, sB] := by rw [hw5]; exact hr5
     rw [← hw5] at hb5 hx5 hz5 ⊢
     have HR5 := Aside0.mk hr5'
     have HB5 := Aside0.mk hb5
     have HX5 := Aside0.mk hx5
     have HZ5 := Aside0.mk hz5
     clear hr5 hr5' hw5 hb5 hx5 hz5 hc1 hf1 hc0 hf0
     go_wp2
     go_roundg 1
     case measure => omega
     case rel => exact ⟨0, _, congrArg (Value.int .i64) (by decide +kernel), .inr ⟨rfl, rfl⟩, ⟨by (with_reducible repeat (first | apply Kd.R_drewN | apply Kd.R_drew)); exact HR5.out⟩, ⟨by (with_reducible repeat (first | apply pw_below_drewN | apply below_drew1)); exact HB5.out⟩, ⟨HZ5.out⟩, ⟨HX5.out⟩⟩
    go_wp2
    go_quiet (fail)
    go_wp2
    go_roundg 2
    case measure => omega
    case rel => exact ⟨2, _, congrArg (Value.int .i64) (by decide +kernel), .inr (.inl ⟨rfl, rfl, rfl⟩), ⟨by (with_reducible repeat (first | apply Kd.R_drewN | apply Kd.R_drew)); exact HR2.out⟩, ⟨by (with_reducible repeat (first | apply pw_below_drewN | apply below_drew1)); exact HB2.out⟩, ⟨HZ2.out⟩, ⟨HX2.out⟩⟩
  ·go_wp2
   go_loopg [9] 2 (fun gk v9 wr => ∃ (j : Int) (row : List ByteArray), v9 = .int .i64 j ∧ (j = 2 ∧ row = [sA, sB, sB]) ∧ Aside0 (Kd.string.R 9 wr base (fun _ => True) (.slice (some ⟨g, 0, none⟩) 3 cap) row) ∧ Aside0 (Below base w wr) ∧ Aside0 (base ≤ wr.heap.size) ∧ Aside0 (wr.heap[gb]? = some (.cells #[.func (.func 28) #[] #[]] 57 (0, 0))))
   case atStart => exact ⟨2, _, rfl, ⟨rfl, rfl⟩, HR, HB, HZ, HX⟩
   case round =>
    clear HR HB HZ HX
    obtain ⟨j, row, rfl, ⟨rfl, rfl⟩, HR2, HB2, HZ2, HX2⟩ := hrel
    have hc1 : _ = some (Value.string sB) := (Kd.R_cell (d := ByteArray.empty) HR2.out 2 (by decide) (by decide)).1
    have hc0 : _ = some (Value.string sB) := (Kd.R_cell (d := ByteArray.empty) HR2.out 1 (by decide) (by decide)).1
    have e1 : (2 : Int).toNat = 2 := rfl
    have e0 : (1 : Int).toNat = 1 := rfl
    rw [e1] at hc1
    rw [e0] at hc0
    have hcmp : cmpS sB sB = 0 := by decide +kernel
    have hw0 : wrap64 1 = 1 := by decide +kernel
    go_wp2_with fail
    refine start_ (n := 17) (S := fun w' => w'.cell? ⟨g, 2, none⟩ = some (.string sB) ∧ w'.cell? ⟨g, 1, none⟩ = some (.string sB)) (ds := []) #[false, false, false, false, false, false, false, false, false, false, false, false, false, false, false, false, false] zz34 rfl rfl ⟨hc1, hc0⟩ (fun hHeld => ?_)
    refine pure_ (i := 0) (N := some 18) (v := ?_) (a' := ?_) #[true, false, false, false, false, false, false, false, false, false, false, false, false, false, false, false, false] rfl rfl zz34 (fun _ _ _ h => h) (Or.inl ⟨by rfl, ?_⟩) ?_ ?_
    rotate_left
    ·intro w'
     go_simp
     with_reducible rfl
    rotate_left
    ·simp only [Act.put, setIfInBounds_toArray, set_cons_zero, set_cons_succ, i64_w, i32_w]
     rfl
    refine pure_ (i := 1) (N := some 19) (v := ?_) (a' := ?_) #[true, true, false, false, false, false, false, false, false, false, false, false, false, false, false, false, false] rfl rfl zz34 (fun _ _ _ h => h) (Or.inl ⟨by rfl, ?_⟩) ?_ ?_
    rotate_left
    ·intro w'
     go_simp
     with_reducible rfl
    rotate_left
    ·simp only [Act.put, setIfInBounds_toArray, set_cons_zero, set_cons_succ, i64_w, i32_w]
     rfl
    refine pure_ (i := 2) (N := some 20) (v := ?_) (a' := ?_) #[true, true, true, false, false, false, false, false, false, false, false, false, false, false, false, false, false] rfl rfl zz34 (fun _ _ _ h => h) (Or.inl ⟨by rfl, ?_⟩) ?_ ?_
    rotate_left
    ·intro w'
     go_simp
     with_reducible rfl
    rotate_left
    ·simp only [Act.put, setIfInBounds_toArray, set_cons_zero, set_cons_succ, i64_w, i32_w]
     rfl
    refine pure_ (i := 3) (N := some 21) (v := ?_) (a' := ?_) #[true, true, true, true, false, false, false, false, false, false, false, false, false, false, false, false, false] rfl rfl zz34 (fun _ _ _ h => h) (Or.inl ⟨by rfl, ?_⟩) ?_ ?_
    rotate_left
    ·intro w'
     go_simp
     with_reducible rfl
    rotate_left
    ·simp only [Act.put, setIfInBounds_toArray, set_cons_zero, set_cons_succ, i64_w, i32_w]
     rfl
    refine pure_ (i := 4) (N := some 22) (v := ?_) (a' := ?_) #[true, true, true, true, true, false, false, false, false, false, false, false, false, false, false, false, false] rfl rfl zz34 (fun _ _ _ h => h) (Or.inl ⟨by rfl, ?_⟩) ?_ ?_
    rotate_left
    ·intro w'
     go_simp
     with_reducible rfl
    rotate_left
    ·simp only [Act.put, setIfInBounds_toArray, set_cons_zero, set_cons_succ, i64_w, i32_w]
     rfl
    refine pure_ (i := 5) (N := some 23) (v := ?_) (a' := ?_) #[true, true, true, true, true, true, false, false, false, false, false, false, false, false, false, false, false] rfl rfl zz34 (fun _ _ _ h => h) (Or.inl ⟨by rfl, ?_⟩) ?_ ?_
    rotate_left
    ·intro w'
     go_simp
     with_reducible rfl
    rotate_left
    ·simp only [Act.put, setIfInBounds_toArray, set_cons_zero, set_cons_succ, i64_w, i32_w]
     rfl
    refine pure_ (i := 6) (N := some 24) (v := ?_) (a' := ?_) #[true, true, true, true, true, true, true, false, false, false, false, false, false, false, false, false, false] rfl rfl zz34 (fun _ _ _ h => h) (Or.inl ⟨by rfl, ?_⟩) ?_ ?_
    rotate_left
    ·intro w'
     go_simp
     with_reducible rfl
    rotate_left
    ·simp only [Act.put, setIfInBounds_toArray, set_cons_zero, set_cons_succ, i64_w, i32_w]
     rfl
    refine pure_ (i := 7) (N := some 25) (v := ?_) (a' := ?_) #[true, true, true, true, true, true, true, true, false, false, false, false, false, false, false, false, false] rfl rfl zz34 (fun _ _ _ h => h) (Or.inl ⟨by rfl, ?_⟩) ?_ ?_
    rotate_left
    ·intro w'
     go_simp
     with_reducible rfl
    rotate_left
    ·simp only [Act.put, setIfInBounds_toArray, set_cons_zero, set_cons_succ, i64_w, i32_w]
     rfl
    refine pure_ (i := 9) (N := some 27) (v := ?_) (a' := ?_) #[true, true, true, true, true, true, true, true, false, true, false, false, false, false, false, false, false] rfl rfl zz34 (fun _ _ _ h => h) (Or.inl ⟨by rfl, ?_⟩) ?_ ?_
    rotate_left
    ·intro w'
     go_simp
     with_reducible rfl
    rotate_left
    ·simp only [Act.put, setIfInBounds_toArray, set_cons_zero, set_cons_succ, i64_w, i32_w]
     rfl
    refine pure_ (i := 10) (N := some 28) (v := ?_) (a' := ?_) #[true, true, true, true, true, true, true, true, false, true, true, false, false, false, false, false, false] rfl rfl zz34 (fun _ _ _ h => h) (Or.inl ⟨by rfl, ?_⟩) ?_ ?_
    rotate_left
    ·intro w'
     go_simp
     with_reducible rfl
    rotate_left
    ·simp only [Act.put, setIfInBounds_toArray, set_cons_zero, set_cons_succ, i64_w, i32_w]
     rfl
    refine pure_ (i := 11) (N := some 29) (v := ?_) (a' := ?_) #[true, true, true, true, true, true, true, true, false, true, true, true, false, false, false, false, false] rfl rfl zz34 (fun _ _ _ h => h) (Or.inl ⟨by rfl, ?_⟩) ?_ ?_
    rotate_left
    ·intro w'
     go_simp
     with_reducible rfl
    rotate_left
    ·simp only [Act.put, setIfInBounds_toArray, set_cons_zero, set_cons_succ, i64_w, i32_w]
     rfl
    refine pure_ (i := 12) (N := some 30) (v := ?_) (a' := ?_) #[true, true, true, true, true, true, true, true, false, true, true, true, true, false, false, false, false] rfl rfl zz34 (fun _ _ _ h => h) (Or.inl ⟨by rfl, ?_⟩) ?_ ?_
    rotate_left
    ·intro w'
     go_simp
     with_reducible rfl
    rotate_left
    ·simp only [Act.put, setIfInBounds_toArray, set_cons_zero, set_cons_succ, i64_w, i32_w]
     rfl
    refine take_ (i := 8) (N := some 26) (v := ?_) (a' := ?_) #[true, true, true, true, true, true, true, true, true, true, true, true, true, false, false, false, false] rfl rfl zz34 (fun _ _ _ h => h) (Or.inl ⟨by rfl, ?_⟩) hHeld ?_ ?_
    rotate_left
    ·rintro w' ⟨s0, s1⟩
     go_simp
     with_reducible rfl
    rotate_left
    ·simp only [Act.put, setIfInBounds_toArray, set_cons_zero, set_cons_succ, i64_w, i32_w]
     rfl
    refine take_ (i := 13) (N := some 31) (v := ?_) (a' := ?_) #[true, true, true, true, true, true, true, true, true, true, true, true, true, true, false, false, false] rfl rfl zz34 (fun _ _ _ h => h) (Or.inl ⟨by rfl, ?_⟩) hHeld ?_ ?_
    rotate_left
    ·rintro w' ⟨s0, s1⟩
     go_simp
     with_reducible rfl
    rotate_left
    ·simp only [Act.put, setIfInBounds_toArray, set_cons_zero, set_cons_succ, i64_w, i32_w]
     rfl
    refine one_ (i := 14) (N := some 32) #[true, true, true, true, true, true, true, true, true, true, true, true, true, true, true, false, false] rfl rfl zz34 (by decide) (fun K hK => ?_)
    refine goesR rfl rfl hF #[.string sB, .string sB] (by rfl) rfl zz39 ?_
    refine calls_of_args (args' := #[.string sB, .string sB, .pointer (some ⟨gb, 0, none⟩)]) rfl ?_
    with_reducible refine (item_sorted_string_1.hof sB sB gb _ (blk_drew HX2.out)).mono ?_
    rintro e w4 ⟨rfl, hb⟩
    refine ⟨_, rfl, ?_⟩
    have HR4 := Aside0.mk (Kd.R_below (Kd.R_drew HR2.out) hb)
    have HX4 := Aside0.mk (blk_below (blk_drew HX2.out) hb)
    have HB4 := Aside0.mk (pw_below_grown (below_drew HB2.out) none HZ2.out (grown_of_below hb none) (fun _ hk => by cases hk))
    have HZ4 := Aside0.mk (Nat.le_trans (show base ≤ wr.drew.heap.size from HZ2.out) (below_size hb))
    rw [hcmp]
    refine hK.out _ _ ⟨pw_cell_below hb (hHeld.1), pw_cell_below hb (hHeld.2)⟩ (fun hHeld => ?_)
    clear hK K
    refine norm_ (a' := ?_) ?_ ?_
    rotate_left
    ·show Act.put _ (some 32) _ = _
     simp only [Act.put, setIfInBounds_toArray, set_cons_zero, set_cons_succ, i64_w, i32_w]
     rfl
    refine pure_ (i := 15) (N := some 33) (v := ?_) (a' := ?_) #[true, true, true, true, true, true, true, true, true, true, true, true, true, true, true, true, false] rfl rfl zz34 (fun _ _ _ h => h) (Or.inl ⟨by rfl, ?_⟩) ?_ ?_
    rotate_left
    ·intro w'
     go_simp
     with_reducible rfl
    rotate_left
    ·simp only [Act.put, setIfInBounds_toArray, set_cons_zero, set_cons_succ, i64_w, i32_w]
     rfl
    refine pure_ (i := 16) (N := some 34) (v := ?_) (a' := ?_) #[true, true, true, true, true, true, true, true, true, true, true, true, true, true, true, true, true] rfl rfl zz34 (fun _ _ _ h => h) (Or.inl ⟨by rfl, ?_⟩) ?_ ?_
    rotate_left
    ·intro w'
     go_simp
     with_reducible rfl
    rotate_left
    ·simp only [Act.put, setIfInBounds_toArray, set_cons_zero, set_cons_succ, i64_w, i32_w]
     rfl
    refine done_ zz34 ?_
    clear hHeld hc1 hc0 HR2 HB2 HZ2 HX2
    go_wp2
    go_roundg 1
    case measure => omega
    case rel => exact ⟨3, _, congrArg (Value.int .i64) (by decide +kernel), .inr (.inr ⟨rfl, rfl⟩), ⟨by (with_reducible repeat (first | apply Kd.R_drewN | apply Kd.R_drew)); exact HR4.out⟩, ⟨by (with_reducible repeat (first | apply pw_below_drewN | apply below_drew1)); exact HB4.out⟩, ⟨HZ4.out⟩, ⟨HX4.out⟩⟩
  go_wp2
  go_end0
  exact ⟨rfl, HR.out, HB.out⟩
set_option maxHeartbeats 4000000 in
set_option maxRecDepth 100000 in
theorem slices_Compact_string_string.hof (g cap base : Nat) (w : World) (hR : Kd.string.R 9 w base (fun _ => True) (.slice (some ⟨g, 0, none⟩) 3 cap) [sA, sB, sB]) (hbase : base ≤ w.heap.size) :
  Calls Tryz.prog 26 #[.slice (some ⟨g, 0, none⟩) 3 cap] w fun e w' => e = .returned (.slice (some ⟨g, 0, none⟩) 2 cap) ∧ Kd.string.R 9 w' base (fun _ => True) (.slice (some ⟨g, 0, none⟩) 2 cap) [sA, sB] ∧ Below base w w' := by
 have hg : base ≤ g := Kd.R_base hR g rfl
 have hcap : 3 ≤ cap := by obtain ⟨_, h, _⟩ := Kd.R_reads' hR; exact h
 obtain ⟨hc0, hf0⟩ : w.cell? ⟨g, 0, none⟩ = some (.string sA) ∧ w.frozen? ⟨g, 0, none⟩ = false := Kd.R_cell (d := ByteArray.empty) hR 0 (by decide) (by decide)
 obtain ⟨hc1, hf1⟩ : w.cell? ⟨g, 1, none⟩ = some (.string sB) ∧ w.frozen? ⟨g, 1, none⟩ = false := Kd.R_cell (d := ByteArray.empty) hR 1 (by decide) (by decide)
 obtain ⟨hc2, hf2⟩ : w.cell? ⟨g, 2, none⟩ = some (.string sB) ∧ w.frozen? ⟨g, 2, none⟩ = false := Kd.R_cell (d := ByteArray.empty) hR 2 (by decide) (by decide)
 have hab : (sB.toList == sA.toList) = false := by decide +kernel
 have hbb : (sB.toList == sB.toList) = true := by decide +kernel
 have hw0 : wrap64 0 = 0 := by decide +kernel
 have hw1 : wrap64 1 = 1 := by decide +kernel
 have hw2 : wrap64 2 = 2 := by decide +kernel
 have hz : ∀ W : World, (zeroValue 9).run Tryz.prog W = .ok (.string ⟨#[]⟩) W := fun W => by
  obtain ⟨i, hi, hz0, _, _⟩ := info_parts info9
  simp [zeroValue, typeInfo, hi, hz0]
 have hclr : ∀ n : Nat, (Builtin.clear_ #[22] 0 #[.slice (some ⟨g, 2, none⟩) 1 (cap - 2)]).run Tryz.prog (w.drewN n) = .ok (.tuple #[]) ((w.drewN n).setCell ⟨g, 2, none⟩ (.string ⟨#[]⟩)) := fun n =>
  Lib.run_clear_slice (w.drewN n) 22 9 0 _ Tryz.underlying22 hz rfl rfl g 2 1 _ (by decide) (fun j hj => by (obtain rfl : j = 0 := (by omega)); (show (w.cell? ⟨g, 2, none⟩).isSome = true); rw [hc2]; rfl) (fun j hj => by (obtain rfl : j = 0 := (by omega)); exact hf2)
 have HR := Aside0.mk hR
 have hk2 : (2 ≤ cap) = True := eq_true (by omega)
 clear hR hz
 go_enter Tryz.func26, Tryz.ntmps26
 go_wp2
 refine wp_loop_rounds 2 ?_
 rw [rounds_succ]
 go_wp2
 go_quiet (fail)
 go_wp2
 rw [rounds_succ]
 go_wp2
 go_quiet (fail)
 go_wp2
 refine wp_loop_rounds 1 ?_
 rw [rounds_succ]
 go_wp2
 go_ret
 exact ⟨rfl, Kd.R_take (m := 2) (show Kd.string.R 9 _ base (fun _ => True) (.slice (some ⟨g, 0, none⟩) [sA, sB, (⟨#[]⟩ : ByteArray)].length cap) [sA, sB, (⟨#[]⟩ : ByteArray)] from (Kd.R_put (Kd.R_drewN HR.out _) 2 _).1) (by decide), (pw_below_drewN (Below.refl base w) _).setCell (p := ⟨g, 2, none⟩) hg _⟩
set_option maxHeartbeats 4000000 in
set_option maxRecDepth 100000 in
theorem slices_stableCmpFunc_string.hof (g gb cap base : Nat) (w : World) (hR : Kd.string.R 9 w base (fun _ => True) (.slice (some ⟨g, 0, none⟩) 3 cap) [sB, sA, sB]) (hbase : base ≤ w.heap.size) (hbox : w.heap[gb]? = some (.cells #[.func (.func 28) #[] #[]] 57 (0, 0))) :
  Calls Tryz.prog 55 #[.slice (some ⟨g, 0, none⟩) 3 cap, .int .i64 3, .func (.func 40) #[] #[.pointer (some ⟨gb, 0, none⟩)]] w fun e w' => e = .returned (.tuple #[]) ∧ Kd.string.R 9 w' base (fun _ => True) (.slice (some ⟨g, 0, none⟩) 3 cap) [sA, sB, sB] ∧ Below base w w' := by
 have H := Aside0.mk (slices_insertionSortCmpFunc_string.hof g gb cap base w hR hbase hbox)
 clear hR hbase hbox
 go_enter Tryz.func55, Tryz.ntmps55
 go_wp2
 refine wp_loop_rounds 1 ?_
 rw [rounds_succ]
 go_wp2_with (go_at_call 76; (with_reducible refine H.out.mono ?_); rintro e w2 ⟨rfl, hr, hb⟩; have HR := Aside0.mk hr; have HB := Aside0.mk hb; clear hr hb)
 refine wp_loop_rounds 1 ?_
 rw [rounds_succ]
 go_wp2
 go_end0
 exact ⟨rfl, HR.out, HB.out⟩
set_option maxHeartbeats 4000000 in
set_option maxRecDepth 100000 in
theorem slices_SortStableFunc_string_string.hof (g gb cap base : Nat) (w : World) (hR : Kd.string.R 9 w base (fun _ => True) (.slice (some ⟨g, 0, none⟩) 3 cap) [sB, sA, sB]) (hbase : base ≤ w.heap.size) (hbox : w.heap[gb]? = some (.cells #[.func (.func 28) #[] #[]] 57 (0, 0))) :
  Calls Tryz.prog 39 #[.slice (some ⟨g, 0, none⟩) 3 cap, .func (.func 40) #[] #[.pointer (some ⟨gb, 0, none⟩)]] w fun e w' => e = .returned (.tuple #[]) ∧ Kd.string.R 9 w' base (fun _ => True) (.slice (some ⟨g, 0, none⟩) 3 cap) [sA, sB, sB] ∧ Below base w w' := by
 have H := Aside0.mk (slices_stableCmpFunc_string.hof g gb cap base w hR hbase hbox)
 clear hR hbase hbox
 go_enter Tryz.func39, Tryz.ntmps39
 go_wp2_with (go_at_call 55; (with_reducible refine H.out.mono ?_); rintro e w2 ⟨rfl, hr, hb⟩; have HR := Aside0.mk hr; have HB := Aside0.mk hb; clear hr hb)
 go_end0
 exact ⟨rfl, HR.out, HB.out⟩
set_option maxHeartbeats 4000000 in
set_option maxRecDepth 100000 in
theorem item_sorted_string.hof (A0 : Option Addr) (c0 : Nat) (w : World) (hr0 : Kd.string.C w A0 [sB, sA, sB].length [sB, sA, sB]) (hc0 : [sB, sA, sB].length ≤ c0) :
  Calls Tryz.prog 27 #[.slice A0 3 c0, .func (.func 28) #[] #[]] w fun e w' => ∃ g cap, e = .returned (.slice (some ⟨g, 0, none⟩) 3 cap) ∧ Kd.string.R 9 w' w.heap.size (fun _ => True) (.slice (some ⟨g, 0, none⟩) 3 cap) [sA, sB, sB] ∧ Below w.heap.size w w' := by
 have HR := Aside0.mk hr0
 have HC := Aside0.mk hc0
 have HB0 := Aside0.mk (Below.refl w.heap.size w)
 clear hr0 hc0
 go_enter Tryz.func27, Tryz.ntmps27
 go_wp2_with (first | ((with_reducible refine gd 3 ?_); refine bz #[.func (.func 28) #[] #[]] 57 ?_; intro gb hgb w1 hbox hb; have HX := Aside0.mk hbox; have HB1 := Aside0.mk (below_step HB0.out hb); clear hbox hb hgb) | (go_at_call 38; refine (slices_Clone_string_string.calls A0 c0 [sB, sA, sB] [sB, sA, sB] _ (Kd.C_below HR.out HB1.out) HC.out (by unfold slices_Clone_string_string.f; rw [if_pos (by decide)])).mono ?_; rintro e w2 ⟨v2, rfl, ho, hb⟩; obtain ⟨g2, cap2, rfl, hg2, _⟩ := Kd.R_form ho (by decide); have HO := Aside0.mk (Kd.R_lower ho (below_size HB1.out)); have HX2 := Aside0.mk (blk_below HX.out hb); have HB2 := Aside0.mk (below2 HB1.out hb); have HZ2 := Aside0.mk (below_size HB2.out); clear ho hb hg2) | (go_at_call 39; refine (slices_SortStableFunc_string_string.hof g2 gb cap2 w.heap.size w2 HO.out HZ2.out HX2.out).mono ?_; rintro e w3 ⟨rfl, hr, hb⟩; have HR3 := Aside0.mk hr; have HB3 := Aside0.mk (HB2.out.trans hb); clear hr hb))
 go_ret
 exact ⟨_, _, rfl, HR3.out, HB3.out⟩
def item_Groups_2.f (a0 : ByteArray) : Option (Bool) := some (a0.toList == ([] : List UInt8))
set_option maxHeartbeats 8000000 in
set_option maxRecDepth 100000 in
theorem item_Groups_2.calls (a0 : ByteArray) (r : Bool) (w : World) (h : item_Groups_2.f a0 = some r) :
  Calls Tryz.prog 30 #[.string a0] w fun e w' => e = .returned (.bool r) ∧ Drawn0 w w' := by
 have H : (some (a0.toList == ([] : List UInt8))) = some r := h
 clear h
 obtain rfl := Option.some.inj H
 go_enter Tryz.func30, Tryz.ntmps30
 go_wp2
 go_ret
 exact ⟨zz1, zz17⟩
end Go.Proofs.YtaekklpphlcngaaGreatDoor.Q
