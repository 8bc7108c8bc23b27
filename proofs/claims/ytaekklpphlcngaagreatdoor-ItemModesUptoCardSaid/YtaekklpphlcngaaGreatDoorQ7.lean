-- Written by hookprint.py (wip/) of this session: the kit's print with hand-proved functions beside it. Not trusted: Lean checks it.
import Derived.Test.YtaekklpphlcngaaGreatDoorQ0
import Derived.Test.YtaekklpphlcngaaGreatDoorQ5
import Derived.Test.YtaekklpphlcngaaGreatDoorQ6
namespace Go.Proofs.YtaekklpphlcngaaGreatDoor.Q
open List (setIfInBounds_toArray set_cons_zero set_cons_succ)
open Go.RowKit Go.Lib Go.Proofs.YtaekklpphlcngaaGreatDoorX Go.Proofs.YtaekklpphlcngaaGreatDoorW.PrintWords Go.Proofs.YtaekklpphlcngaaGreatDoorW.PrintLast Go.Proofs.YtaekklpphlcngaaGreatDoorW.PrintMore
set_option linter.unusedVariables false
set_option linter.unusedSimpArgs false
set_option maxHeartbeats 4000000 in
set_option maxRecDepth 100000 in
theorem slices_IndexFunc_string_string.hof (g cap : Nat) (w : World) (hR : Kd.string.C w (some ⟨g, 0, none⟩) 2 [sA, sB]) :
  Calls Tryz.prog 41 #[.slice (some ⟨g, 0, none⟩) 2 cap, .func (.func 30) #[] #[]] w fun e w' => e = .returned (.int .i64 (-1)) ∧ Below w.heap.size w w' := by
 have hF : IsFn Tryz.prog 30 := ⟨⟨_, Tryz.func30, zz34, rfl⟩⟩
 have hc0 : w.cell? ⟨g, 0, none⟩ = some (.string sA) := by
  obtain ⟨ad, e, h⟩ := Kd.at_string hR 0 (by decide) (by decide)
  injection e with e
  rw [← e] at h
  exact h
 have hc1 : w.cell? ⟨g, 1, none⟩ = some (.string sB) := by
  obtain ⟨ad, e, h⟩ := Kd.at_string hR 1 (by decide) (by decide)
  injection e with e
  rw [← e] at h
  exact h
 have H1 := Aside0.mk (fun W : World => item_Groups_2.calls sA false W (by decide +kernel))
 have H2 := Aside0.mk (fun W : World => item_Groups_2.calls sB false W (by decide +kernel))
 have HC0 := Aside0.mk hc0
 have HC1 := Aside0.mk hc1
 have hw1 : wrap64 1 = 1 := by decide +kernel
 have hw2 : wrap64 2 = 2 := by decide +kernel
 clear hR
 go_enter Tryz.func41, Tryz.ntmps41
 go_wp2
 refine wp_loop_rounds 3 ?_
 rw [rounds_succ]
 go_wp2_with (go_at_call 30; (with_reducible refine (H1.out _).mono ?_); rintro e w2 ⟨rfl, hb⟩; have HB2 := Aside0.mk hb.below; have hc1 := (hb.below.cell (World.block_lt_of_cell? _ _ HC1.out)).trans HC1.out; clear hb)
 rw [rounds_succ]
 go_wp2_with (go_at_call 30; (with_reducible refine (H2.out _).mono ?_); rintro e w3 ⟨rfl, hb⟩; have HB3 := Aside0.mk (below2 HB2.out hb.below); clear hb)
 rw [rounds_succ]
 go_wp2
 go_ret
 exact ⟨rfl, HB3.out⟩
set_option maxHeartbeats 4000000 in
set_option maxRecDepth 100000 in
theorem slices_DeleteFunc_string_string.hof (g cap : Nat) (w : World) (hR : Kd.string.C w (some ⟨g, 0, none⟩) 2 [sA, sB]) :
  Calls Tryz.prog 29 #[.slice (some ⟨g, 0, none⟩) 2 cap, .func (.func 30) #[] #[]] w fun e w' => e = .returned (.slice (some ⟨g, 0, none⟩) 2 cap) ∧ Below w.heap.size w w' := by
 have H := Aside0.mk (slices_IndexFunc_string_string.hof g cap w hR)
 clear hR
 go_enter Tryz.func29, Tryz.ntmps29
 go_wp2_with (go_at_call 41; (with_reducible refine H.out.mono ?_); rintro e w2 ⟨rfl, hb⟩; have HB := Aside0.mk hb; clear hb)
 go_ret
 exact ⟨rfl, HB.out⟩
def item_Groups.f (l0 : List ByteArray) : Option (List ByteArray) := if l0 = [(⟨#[98]⟩ : ByteArray), (⟨#[97]⟩ : ByteArray), (⟨#[98]⟩ : ByteArray)] then some [(⟨#[97]⟩ : ByteArray), (⟨#[98]⟩ : ByteArray)] else none
set_option maxHeartbeats 4000000 in
set_option maxRecDepth 100000 in
theorem item_Groups.calls (A0 : Option Addr) (c0 : Nat) (l0 : List ByteArray) (r : List ByteArray) (w : World) (hr0 : Kd.string.C w A0 l0.length l0) (hc0 : l0.length ≤ c0) (h : item_Groups.f l0 = some r) :
  Calls Tryz.prog 12 #[.slice A0 l0.length c0] w fun e w' => ∃ v0_ : Value, e = .returned (v0_) ∧ Kd.string.R 9 w' w.heap.size (fun _ => True) v0_ r ∧ Below w.heap.size w w' := by
 unfold item_Groups.f at h
 split at h
 ·rename_i hl
  obtain rfl := Option.some.inj h
  obtain rfl : l0 = [sB, sA, sB] := hl
  have H := Aside0.mk (item_sorted_string.hof A0 c0 w hr0 hc0)
  clear hr0 hc0 h
  have e3 : ([sB, sA, sB] : List ByteArray).length = 3 := rfl
  rw [e3]
  go_enter Tryz.func12, Tryz.ntmps12
  go_wp2_with (first | (go_at_call 27; (with_reducible refine H.out.mono ?_); rintro e w2 ⟨g, cap, rfl, hr, hb⟩; have HR := Aside0.mk hr; have HB := Aside0.mk hb; clear hr hb) | (go_at_call 26; (with_reducible refine (slices_Compact_string_string.hof g cap w.heap.size _ HR.out (below_size HB.out)).mono ?_); rintro e w3 ⟨rfl, hr, hb⟩; have HR3 := Aside0.mk hr; have HB3 := Aside0.mk (HB.out.trans hb); clear hr hb) | (go_at_call 29; (with_reducible refine (slices_DeleteFunc_string_string.hof g cap _ (Kd.R_reads' HR3.out).2.2).mono ?_); rintro e w4 ⟨rfl, hb⟩; have HR4 := Aside0.mk (Kd.R_below HR3.out hb); have HB4 := Aside0.mk (below2 HB3.out hb); clear hb))
  go_ret
  exact ⟨_, rfl, HR4.out, HB4.out⟩
 cases h
def cardexlaw14_awake.f (k : Nat)  : Option (Bool) := (item_Find.f (([(⟨(⟨#[97, 64, 98]⟩ : ByteArray), (⟨#[110]⟩ : ByteArray), ([] : List ByteArray), 0, false, false⟩ : S24)] : List (S24))) (⟨#[97, 64, 98]⟩ : ByteArray)).bind fun bt283 => ((item_Right.f k (⟨#[97, 64, 98]⟩ : ByteArray) (⟨#[]⟩ : ByteArray) ([] : List ByteArray) 0 false false).bind fun t293 => (if t293 = true then (if bt283.2.2.2.2.2.2 = true then (if bt283.2.1.toList = ([110] : List UInt8) then ((item_Groups.f (([(⟨#[98]⟩ : ByteArray), (⟨#[97]⟩ : ByteArray), (⟨#[98]⟩ : ByteArray)] : List ByteArray))).bind fun t297 => ((cardexhelp_Plain_string.f k t297 (([(⟨#[97]⟩ : ByteArray), (⟨#[98]⟩ : ByteArray)] : List ByteArray))).bind fun t303 => (some t303))) else (some false)) else (some false)) else (some false)))
theorem cardexlaw14_awake.mono : ∀ k, LeO (cardexlaw14_awake.f k ) (cardexlaw14_awake.f (k + 1) ) := by
 intro  k
 unfold cardexlaw14_awake.f
 repeat' first
   | (with_reducible exact cardexhelp_Plain_string.mono _ _ _)
   | (with_reducible exact item_Right.mono _ _ _ _ _ _ _)
   | (with_reducible exact LeO.refl _)
   | (with_reducible exact LeO.none _)
   | (with_reducible refine LeO.ite ?_ ?_)
   | (with_reducible refine LeO.bind ?_ (fun _ => ?_))
   | exact cardexhelp_Plain_string.mono _ _ _
   | exact item_Right.mono _ _ _ _ _ _ _
   | exact LeO.none _
   | refine LeO.ite ?_ ?_
   | refine LeO.bind ?_ (fun _ => ?_)
set_option maxHeartbeats 8000000 in
set_option maxRecDepth 100000 in
theorem cardexlaw14_awake.calls (k : Nat)  (r : Bool) (w : World) (h : cardexlaw14_awake.f k  = some r) (hT : Tabs w) :
  Calls Tryz.prog 6 #[] w fun e w' => e = .returned (.bool r) ∧ Below w.heap.size w w' := by
 have hu24 := Tryz.underlying24
 have HT := Aside0.mk hT
 clear hT
 have HB := Aside0.mk (Below.refl w.heap.size w)
 have H : ((item_Find.f (([(⟨(⟨#[97, 64, 98]⟩ : ByteArray), (⟨#[110]⟩ : ByteArray), ([] : List ByteArray), 0, false, false⟩ : S24)] : List (S24))) (⟨#[97, 64, 98]⟩ : ByteArray)).bind fun bt283 => ((item_Right.f k (⟨#[97, 64, 98]⟩ : ByteArray) (⟨#[]⟩ : ByteArray) ([] : List ByteArray) 0 false false).bind fun t293 => (if t293 = true then (if bt283.2.2.2.2.2.2 = true then (if bt283.2.1.toList = ([110] : List UInt8) then ((item_Groups.f (([(⟨#[98]⟩ : ByteArray), (⟨#[97]⟩ : ByteArray), (⟨#[98]⟩ : ByteArray)] : List ByteArray))).bind fun t297 => ((cardexhelp_Plain_string.f k t297 (([(⟨#[97]⟩ : ByteArray), (⟨#[98]⟩ : ByteArray)] : List ByteArray))).bind fun t303 => (some t303))) else (some false)) else (some false)) else (some false)))) = some r := h
 clear h
 obtain ⟨y280, hy280⟩ : ∃ y_ : List (S24), y_ = (([(⟨(⟨#[97, 64, 98]⟩ : ByteArray), (⟨#[110]⟩ : ByteArray), ([] : List ByteArray), 0, false, false⟩ : S24)] : List (S24))) := ⟨_, rfl⟩
 replace H : ((item_Find.f y280 (⟨#[97, 64, 98]⟩ : ByteArray)).bind fun bt283 => ((item_Right.f k (⟨#[97, 64, 98]⟩ : ByteArray) (⟨#[]⟩ : ByteArray) ([] : List ByteArray) 0 false false).bind fun t293 => (if t293 = true then (if bt283.2.2.2.2.2.2 = true then (if bt283.2.1.toList = ([110] : List UInt8) then ((item_Groups.f (([(⟨#[98]⟩ : ByteArray), (⟨#[97]⟩ : ByteArray), (⟨#[98]⟩ : ByteArray)] : List ByteArray))).bind fun t297 => ((cardexhelp_Plain_string.f k t297 (([(⟨#[97]⟩ : ByteArray), (⟨#[98]⟩ : ByteArray)] : List ByteArray))).bind fun t303 => (some t303))) else (some false)) else (some false)) else (some false)))) = some r := by first | (rw [hy280]; with_reducible exact H) | (have H2_ := (Option.bind_some _ _).symm.trans H; rw [hy280]; with_reducible exact H2_) | (have H2_ := (Option.bind_some _ _).symm.trans H; with_reducible exact H2_) | with_reducible exact H | (rw [hy280]; exact H) | exact H
 have Ny280 := Aside0.mk hy280
 clear hy280
 replace H := Option.bind_eq_some_iff.mp H
 obtain ⟨⟨t283, t284, t285, t288, t289, t290, t291⟩, A10, H⟩ := H
 try dsimp only at H
 have A1 := Aside0.mk A10
 clear A10
 replace H := Option.bind_eq_some_iff.mp H
 obtain ⟨t293, A20, H⟩ := H
 try dsimp only at H
 have A2 := Aside0.mk A20
 clear A20
 by_cases c3 : t293 = true
 ·subst c3
  have H1 : (if t291 = true then (if t284.toList = ([110] : List UInt8) then ((item_Groups.f (([(⟨#[98]⟩ : ByteArray), (⟨#[97]⟩ : ByteArray), (⟨#[98]⟩ : ByteArray)] : List ByteArray))).bind fun t297 => ((cardexhelp_Plain_string.f k t297 (([(⟨#[97]⟩ : ByteArray), (⟨#[98]⟩ : ByteArray)] : List ByteArray))).bind fun t303 => (some t303))) else (some false)) else (some false)) = some r := by rw [if_pos rfl] at H; exact H
  clear H
  have H := H1
  clear H1
  by_cases c4 : t291 = true
  ·subst c4
   have H1 : (if t284.toList = ([110] : List UInt8) then ((item_Groups.f (([(⟨#[98]⟩ : ByteArray), (⟨#[97]⟩ : ByteArray), (⟨#[98]⟩ : ByteArray)] : List ByteArray))).bind fun t297 => ((cardexhelp_Plain_string.f k t297 (([(⟨#[97]⟩ : ByteArray), (⟨#[98]⟩ : ByteArray)] : List ByteArray))).bind fun t303 => (some t303))) else (some false)) = some r := by rw [if_pos rfl] at H; exact H
   clear H
   have H := H1
   clear H1
   by_cases c5 : t284.toList = ([110] : List UInt8)
   ·rw [if_pos c5] at H
    obtain ⟨c5b0, c5b1⟩ := eqT c5
    clear c5
    obtain ⟨y294, hy294⟩ : ∃ y_ : List ByteArray, y_ = (([(⟨#[98]⟩ : ByteArray), (⟨#[97]⟩ : ByteArray), (⟨#[98]⟩ : ByteArray)] : List ByteArray)) := ⟨_, rfl⟩
    replace H : ((item_Groups.f y294).bind fun t297 => ((cardexhelp_Plain_string.f k t297 (([(⟨#[97]⟩ : ByteArray), (⟨#[98]⟩ : ByteArray)] : List ByteArray))).bind fun t303 => (some t303))) = some r := by first | (rw [hy294]; with_reducible exact H) | (have H2_ := (Option.bind_some _ _).symm.trans H; rw [hy294]; with_reducible exact H2_) | (have H2_ := (Option.bind_some _ _).symm.trans H; with_reducible exact H2_) | with_reducible exact H | (rw [hy294]; exact H) | exact H
    have Ny294 := Aside0.mk hy294
    clear hy294
    replace H := Option.bind_eq_some_iff.mp H
    obtain ⟨t297, A60, H⟩ := H
    try dsimp only at H
    have A6 := Aside0.mk A60
    clear A60
    obtain ⟨y300, hy300⟩ : ∃ y_ : List ByteArray, y_ = (([(⟨#[97]⟩ : ByteArray), (⟨#[98]⟩ : ByteArray)] : List ByteArray)) := ⟨_, rfl⟩
    replace H : ((cardexhelp_Plain_string.f k t297 y300).bind fun t303 => (some t303)) = some r := by first | (rw [hy300]; with_reducible exact H) | (have H2_ := (Option.bind_some _ _).symm.trans H; rw [hy300]; with_reducible exact H2_) | (have H2_ := (Option.bind_some _ _).symm.trans H; with_reducible exact H2_) | with_reducible exact H | (rw [hy300]; exact H) | exact H
    have Ny300 := Aside0.mk hy300
    clear hy300
    replace H := Option.bind_eq_some_iff.mp H
    obtain ⟨t303, A70, H⟩ := H
    try dsimp only at H
    have A7 := Aside0.mk A70
    clear A70
    obtain rfl := Option.some.inj H
    go_enter Tryz.func6, Tryz.ntmps6
    go_wp2_with (first | ((with_reducible refine gate_dst (N := 5) rfl ?_); (try (refine gate_guard (by rfl) ?_; dsimp only)); refine Kd.S_lit k24 _ 24 ?hg (N := 5) ?hd (xs := ([(⟨(⟨#[97, 64, 98]⟩ : ByteArray), (⟨#[110]⟩ : ByteArray), ([] : List ByteArray), 0, false, false⟩ : S24)] : List (S24))) (inner := [.string (⟨#[97, 64, 98]⟩ : ByteArray), .string (⟨#[110]⟩ : ByteArray), .slice none 0 0, .int .i64 0, .bool false, .bool false]) (ok := fun _ => True) (okp := fun _ => True) ?hr ?hp (fun _ hk => hk) trivial (Below.refl _ _) (Nat.le_refl _) (by simp) ?_; (case hd => rfl); (case hg => rfl); (case hr => exact zz29); (case hp => exact (Reps.c6 (show Kd.M k24 _ _ _ (⟨(⟨#[97, 64, 98]⟩ : ByteArray), (⟨#[110]⟩ : ByteArray), ([] : List ByteArray), 0, false, false⟩ : S24) [.string (⟨#[97, 64, 98]⟩ : ByteArray), .string (⟨#[110]⟩ : ByteArray), .slice none 0 0, .int .i64 0, .bool false, .bool false] from (k24_mkM _ _ _ (⟨(⟨#[97, 64, 98]⟩ : ByteArray), (⟨#[110]⟩ : ByteArray), ([] : List ByteArray), 0, false, false⟩ : S24) (Kd.R_nil _ _ _ _ _))) (Reps.none _ _))); intro v281 w8 ho9 hb hg_ hnew_; clear hg_ hnew_; (first | rw [← Ny280.out] at ho9 | (simp only [Int.reduceToNat] at ho9; rw [← Ny280.out] at ho9)); have n_ := as2 (Kd.S_lower ho9 (below_size zz0)) (below_step zz0 hb); clear HB; obtain ⟨HO282, HB⟩ := n_; clear hb ho9; obtain ⟨Ao10, co10, eo10⟩ := Kd.S_slice HO282.out; subst eo10) | ((with_reducible refine gc 10 ?_); refine gL (some 6) Tryz.func10 #[.slice Ao10 y280.length co10, .string (⟨#[97, 64, 98]⟩ : ByteArray)] ?_; (with_reducible refine (item_Find.calls _ _ y280 (⟨#[97, 64, 98]⟩ : ByteArray) t283 t284 t285 t288 t289 t290 true _ ?side1 ?side2 A1.out).mono ?_); (case side1 => exact zz52); (case side2 => exact (Kd.S_reads' HO282.out).2.1); rintro e w11 ⟨v286, rfl, ho0, hb⟩; refine ⟨_, rfl, ?_⟩; have n_ := as3 (Kd.S_elder' zz42 (Kd.R_base ho0) hb) (Kd.R_lower ho0 (below_size zz0)) (below_step zz0 hb); clear HO282 HB; obtain ⟨HO282, HO287, HB⟩ := n_; (try clear hb ho0)) | ((with_reducible refine gate_dst (N := 1) rfl ?_); (try (refine gate_guard (by rfl) ?_; dsimp only)); refine box_event ?hg (N := 1) ?hd (cs := #[.string (⟨#[]⟩ : ByteArray), .string (⟨#[]⟩ : ByteArray), .slice none 0 0, .int .i64 0, .bool false, .bool false]) (t := 24) ?hr ?_; (case hd => rfl); (case hg => rfl); (case hr => exact zz29); intro gb292 hg w12 hbox hb; have n_ := as6 (Kd.S_below (Kd.S_elderB zz42 gb292 (Nat.le_of_eq hg.symm)) hb) (Kd.R_below zz45 hb) (below_step zz0 hb) hbox (gs w hg zz0) (gs w hg zz0); clear HO282 HO287 HB; obtain ⟨HO282, HO287, HB, BK292, GW292, GE292⟩ := n_; clear hb hbox hg; obtain ⟨hcz13_0, hcz13_1, hcz13_2, hcz13_3, hcz13_4, hcz13_5⟩ := cz6 BK292.out; obtain ⟨hfz13_0, hfz13_1, hfz13_2, hfz13_3, hfz13_4, hfz13_5⟩ := fz6 BK292.out; obtain ⟨Ao14, co14, eo14⟩ := Kd.R_slice HO287.out; subst eo14) | ((with_reducible refine gc 8 ?_); refine gL (some 10) Tryz.func8 #[.agg #[.string (⟨#[97, 64, 98]⟩ : ByteArray), .string (⟨#[]⟩ : ByteArray), .slice none 0 0, .int .i64 0, .bool false, .bool false]] ?_; (refine (item_Right.calls k (⟨#[97, 64, 98]⟩ : ByteArray) (⟨#[]⟩ : ByteArray) _ _ ([] : List ByteArray) 0 false false true _ ?side1 ?side2 A2.out (tabs_b HT.out zz18)).mono ?_); (case side1 => exact Kd.C_nil _ _); (case side2 => exact Nat.le_refl _); rintro e w15 ⟨rfl, hb⟩; refine ⟨_, rfl, ?_⟩; have n_ := as4 (Kd.S_below (by (with_reducible repeat (first | apply Kd.S_alloc | apply Kd.S_drewN | apply Kd.S_drew)); exact (Kd.S_mono (Kd.S_far (p := ⟨gb292, 5, none⟩) (Kd.S_far (p := ⟨gb292, 4, none⟩) (Kd.S_far (p := ⟨gb292, 3, none⟩) (Kd.S_far (p := ⟨gb292, 2, none⟩) (Kd.S_far (p := ⟨gb292, 1, none⟩) (Kd.S_far (p := ⟨gb292, 0, none⟩) (Kd.S_mono HO282.out (fun k_ hk => (⟨hk, hk.2⟩ : _ ∧ k_ ≠ gb292))) (fun _ hk => hk.2) (.string t283)) (fun _ hk => hk.2) (.string t284)) (fun _ hk => hk.2) (.slice Ao14 t285.length co14)) (fun _ hk => hk.2) (.int .i64 t288)) (fun _ hk => hk.2) (.bool t289)) (fun _ hk => hk.2) (.bool t290)) (fun _ h_ => h_.1))) hb) (Kd.R_below (by (with_reducible repeat (first | apply Kd.R_alloc | apply Kd.R_drewN | apply Kd.R_drew)); exact (Kd.R_mono (Kd.R_far (p := ⟨gb292, 5, none⟩) (Kd.R_far (p := ⟨gb292, 4, none⟩) (Kd.R_far (p := ⟨gb292, 3, none⟩) (Kd.R_far (p := ⟨gb292, 2, none⟩) (Kd.R_far (p := ⟨gb292, 1, none⟩) (Kd.R_far (p := ⟨gb292, 0, none⟩) (Kd.R_types HO287.out BK292.out (by decide)) (fun _ hk => hk.2) (.string t283)) (fun _ hk => hk.2) (.string t284)) (fun _ hk => hk.2) (.slice Ao14 t285.length co14)) (fun _ hk => hk.2) (.int .i64 t288)) (fun _ hk => hk.2) (.bool t289)) (fun _ hk => hk.2) (.bool t290)) (fun _ h_ => h_.1))) hb) (blk_below (g := gb292) (o := .cells #[.string t283, .string t284, .slice Ao14 t285.length co14, .int .i64 t288, .bool t289, .bool t290] 24 (0, 0)) (by (with_reducible repeat (first | refine blk_drewN ?_ _ | refine blk_drew ?_ | refine blk_alloc ?_ _)); refine blk_put (cs := #[.string t283, .string t284, .slice Ao14 t285.length co14, .int .i64 t288, .bool t289, .bool false]) ?_ 5 _ rfl; (with_reducible repeat (first | refine blk_drewN ?_ _ | refine blk_drew ?_ | refine blk_alloc ?_ _)); refine blk_put (cs := #[.string t283, .string t284, .slice Ao14 t285.length co14, .int .i64 t288, .bool false, .bool false]) ?_ 4 _ rfl; (with_reducible repeat (first | refine blk_drewN ?_ _ | refine blk_drew ?_ | refine blk_alloc ?_ _)); refine blk_put (cs := #[.string t283, .string t284, .slice Ao14 t285.length co14, .int .i64 0, .bool false, .bool false]) ?_ 3 _ rfl; (with_reducible repeat (first | refine blk_drewN ?_ _ | refine blk_drew ?_ | refine blk_alloc ?_ _)); refine blk_put (cs := #[.string t283, .string t284, .slice none 0 0, .int .i64 0, .bool false, .bool false]) ?_ 2 _ rfl; (with_reducible repeat (first | refine blk_drewN ?_ _ | refine blk_drew ?_ | refine blk_alloc ?_ _)); refine blk_put (cs := #[.string t283, .string (⟨#[]⟩ : ByteArray), .slice none 0 0, .int .i64 0, .bool false, .bool false]) ?_ 1 _ rfl; (with_reducible repeat (first | refine blk_drewN ?_ _ | refine blk_drew ?_ | refine blk_alloc ?_ _)); refine blk_put (cs := #[.string (⟨#[]⟩ : ByteArray), .string (⟨#[]⟩ : ByteArray), .slice none 0 0, .int .i64 0, .bool false, .bool false]) ?_ 0 _ rfl; (with_reducible repeat (first | refine blk_drewN ?_ _ | refine blk_drew ?_ | refine blk_alloc ?_ _)); exact BK292.out) hb) (below_step zz18 hb); clear HO282 HO287 BK292 HB; obtain ⟨HO282, HO287, BK292, HB⟩ := n_; (try clear hb); obtain ⟨hcz16_0, hcz16_1, hcz16_2, hcz16_3, hcz16_4, hcz16_5⟩ := cz6 BK292.out; obtain ⟨hfz16_0, hfz16_1, hfz16_2, hfz16_3, hfz16_4, hfz16_5⟩ := fz6 BK292.out) | ((with_reducible refine gate_dst (N := 20) rfl ?_); (try (refine gate_guard (by rfl) ?_; dsimp only)); refine Kd.R_lit Kd.string _ 9 ?hg (N := 20) ?hd (xs := ([(⟨#[98]⟩ : ByteArray), (⟨#[97]⟩ : ByteArray), (⟨#[98]⟩ : ByteArray)] : List ByteArray)) (inner := [.string (⟨#[98]⟩ : ByteArray), .string (⟨#[97]⟩ : ByteArray), .string (⟨#[98]⟩ : ByteArray)]) (ok := fun _ => True) (okp := fun _ => True) ?hr ?hp (fun _ hk => hk) trivial (Below.refl _ _) (Nat.le_refl _) (by simp) ?_; (case hd => rfl); (case hg => rfl); (case hr => exact zz29); (case hp => exact (Reps.one (show Kd.M Kd.string _ _ _ (⟨#[98]⟩ : ByteArray) [.string (⟨#[98]⟩ : ByteArray)] from rfl) (Reps.one (show Kd.M Kd.string _ _ _ (⟨#[97]⟩ : ByteArray) [.string (⟨#[97]⟩ : ByteArray)] from rfl) (Reps.one (show Kd.M Kd.string _ _ _ (⟨#[98]⟩ : ByteArray) [.string (⟨#[98]⟩ : ByteArray)] from rfl) (Reps.none _ _))))); intro v295 w17 ho18 hb hg_ hnew_; clear hg_ hnew_; (first | rw [← Ny294.out] at ho18 | (simp only [Int.reduceToNat] at ho18; rw [← Ny294.out] at ho18)); have n_ := as5 (Kd.S_elder' zz42 (Kd.R_base ho18) hb) (Kd.R_elder' zz45 (Kd.R_base ho18) hb) (Kd.R_lower (Kd.R_new' ho18 (Kd.R_lt zz45)) (below_size zz18)) (blk_below (by (with_reducible repeat (first | refine blk_drewN ?_ _ | refine blk_drew ?_ | refine blk_alloc ?_ _)); exact BK292.out) hb) (below_step zz18 hb); clear HO282 HO287 BK292 HB; obtain ⟨HO282, HO287, HO296, BK292, HB⟩ := n_; clear hb ho18; obtain ⟨Ao19, co19, eo19⟩ := Kd.R_slice HO296.out; subst eo19) | (go_at_call 12; (with_reducible refine (item_Groups.calls _ _ y294 t297 _ ?side1 ?side2 A6.out).mono ?_); (case side1 => exact (by repeat (first | exact (Kd.R_reads' HO296.out).2.2 | (with_reducible refine Kd.C_alloc ?_ _) | (with_reducible refine Kd.C_drewN ?_ _) | (with_reducible refine Kd.C_drew ?_)))); (case side2 => exact (Kd.R_reads' HO296.out).2.1); rintro e w20 ⟨v298, rfl, ho0, hb⟩; have n_ := as6 (Kd.S_elder' zz42 (Kd.R_base ho0) hb) (Kd.R_elder' zz45 (Kd.R_base ho0) hb) (Kd.R_elder' zz73 (Kd.R_base ho0) hb) (Kd.R_lower (Kd.R_new' (Kd.R_new' ho0 (Kd.R_lt zz45)) (Kd.R_lt zz73)) (below_size zz18)) (blk_below (by (with_reducible repeat (first | refine blk_drewN ?_ _ | refine blk_drew ?_ | refine blk_alloc ?_ _)); exact BK292.out) hb) (below_step zz18 hb); clear HO282 HO287 HO296 BK292 HB; obtain ⟨HO282, HO287, HO296, HO299, BK292, HB⟩ := n_; (try clear hb ho0)) | ((with_reducible refine gate_dst (N := 22) rfl ?_); (try (refine gate_guard (by rfl) ?_; dsimp only)); refine Kd.R_lit Kd.string _ 9 ?hg (N := 22) ?hd (xs := ([(⟨#[97]⟩ : ByteArray), (⟨#[98]⟩ : ByteArray)] : List ByteArray)) (inner := [.string (⟨#[97]⟩ : ByteArray), .string (⟨#[98]⟩ : ByteArray)]) (ok := fun _ => True) (okp := fun _ => True) ?hr ?hp (fun _ hk => hk) trivial (Below.refl _ _) (Nat.le_refl _) (by simp) ?_; (case hd => rfl); (case hg => rfl); (case hr => exact zz29); (case hp => exact (Reps.one (show Kd.M Kd.string _ _ _ (⟨#[97]⟩ : ByteArray) [.string (⟨#[97]⟩ : ByteArray)] from rfl) (Reps.one (show Kd.M Kd.string _ _ _ (⟨#[98]⟩ : ByteArray) [.string (⟨#[98]⟩ : ByteArray)] from rfl) (Reps.none _ _)))); intro v301 w21 ho22 hb hg_ hnew_; clear hg_ hnew_; (first | rw [← Ny300.out] at ho22 | (simp only [Int.reduceToNat] at ho22; rw [← Ny300.out] at ho22)); have n_ := as7 (Kd.S_elder' zz42 (Kd.R_base ho22) hb) (Kd.R_elder' zz45 (Kd.R_base ho22) hb) (Kd.R_elder' zz73 (Kd.R_base ho22) hb) (Kd.R_elder' (by (with_reducible repeat (first | apply Kd.R_alloc | apply Kd.R_drewN | apply Kd.R_drew)); exact HO299.out) (Kd.R_base ho22) hb) (Kd.R_lower (Kd.R_new' (Kd.R_new' (Kd.R_new' ho22 (Kd.R_lt zz45)) (Kd.R_lt zz73)) (Kd.R_lt (by (with_reducible repeat (first | apply Kd.R_alloc | apply Kd.R_drewN | apply Kd.R_drew)); exact HO299.out))) (below_size zz18)) (blk_below (by (with_reducible repeat (first | refine blk_drewN ?_ _ | refine blk_drew ?_ | refine blk_alloc ?_ _)); exact BK292.out) hb) (below_step zz18 hb); clear HO282 HO287 HO296 HO299 BK292 HB; obtain ⟨HO282, HO287, HO296, HO299, HO302, BK292, HB⟩ := n_; clear hb ho22; obtain ⟨Ao23, co23, eo23⟩ := Kd.R_slice HO299.out; subst eo23; obtain ⟨Ao24, co24, eo24⟩ := Kd.R_slice HO302.out; subst eo24) | (go_at_call 11; (with_reducible refine (cardexhelp_Plain_string.calls k _ _ t297 _ _ y300 t303 _ ?side1 ?side2 ?side3 ?side4 A7.out).mono ?_); (case side1 => exact (by repeat (first | exact (Kd.R_reads' HO299.out).2.2 | (with_reducible refine Kd.C_alloc ?_ _) | (with_reducible refine Kd.C_drewN ?_ _) | (with_reducible refine Kd.C_drew ?_)))); (case side2 => exact (Kd.R_reads' HO299.out).2.1); (case side3 => exact (by repeat (first | exact (Kd.R_reads' HO302.out).2.2 | (with_reducible refine Kd.C_alloc ?_ _) | (with_reducible refine Kd.C_drewN ?_ _) | (with_reducible refine Kd.C_drew ?_)))); (case side4 => exact (Kd.R_reads' HO302.out).2.1); rintro e w' ⟨rfl, ⟨nd, rfl⟩⟩))
    go_ret
    exact ⟨zz4, zz18⟩
   rw [if_neg c5] at H
   obtain ⟨c5b0, c5b1⟩ := eqF c5
   obtain rfl := Option.some.inj H
   go_enter Tryz.func6, Tryz.ntmps6
   go_wp2_with (first | ((with_reducible refine gate_dst (N := 5) rfl ?_); (try (refine gate_guard (by rfl) ?_; dsimp only)); refine Kd.S_lit k24 _ 24 ?hg (N := 5) ?hd (xs := ([(⟨(⟨#[97, 64, 98]⟩ : ByteArray), (⟨#[110]⟩ : ByteArray), ([] : List ByteArray), 0, false, false⟩ : S24)] : List (S24))) (inner := [.string (⟨#[97, 64, 98]⟩ : ByteArray), .string (⟨#[110]⟩ : ByteArray), .slice none 0 0, .int .i64 0, .bool false, .bool false]) (ok := fun _ => True) (okp := fun _ => True) ?hr ?hp (fun _ hk => hk) trivial (Below.refl _ _) (Nat.le_refl _) (by simp) ?_; (case hd => rfl); (case hg => rfl); (case hr => exact zz29); (case hp => exact (Reps.c6 (show Kd.M k24 _ _ _ (⟨(⟨#[97, 64, 98]⟩ : ByteArray), (⟨#[110]⟩ : ByteArray), ([] : List ByteArray), 0, false, false⟩ : S24) [.string (⟨#[97, 64, 98]⟩ : ByteArray), .string (⟨#[110]⟩ : ByteArray), .slice none 0 0, .int .i64 0, .bool false, .bool false] from (k24_mkM _ _ _ (⟨(⟨#[97, 64, 98]⟩ : ByteArray), (⟨#[110]⟩ : ByteArray), ([] : List ByteArray), 0, false, false⟩ : S24) (Kd.R_nil _ _ _ _ _))) (Reps.none _ _))); intro v281 w25 ho26 hb hg_ hnew_; clear hg_ hnew_; (first | rw [← Ny280.out] at ho26 | (simp only [Int.reduceToNat] at ho26; rw [← Ny280.out] at ho26)); have n_ := as2 (Kd.S_lower ho26 (below_size zz0)) (below_step zz0 hb); clear HB; obtain ⟨HO282, HB⟩ := n_; clear hb ho26; obtain ⟨Ao27, co27, eo27⟩ := Kd.S_slice HO282.out; subst eo27) | ((with_reducible refine gc 10 ?_); refine gL (some 6) Tryz.func10 #[.slice Ao27 y280.length co27, .string (⟨#[97, 64, 98]⟩ : ByteArray)] ?_; (with_reducible refine (item_Find.calls _ _ y280 (⟨#[97, 64, 98]⟩ : ByteArray) t283 t284 t285 t288 t289 t290 true _ ?side1 ?side2 A1.out).mono ?_); (case side1 => exact zz52); (case side2 => exact (Kd.S_reads' HO282.out).2.1); rintro e w28 ⟨v286, rfl, ho0, hb⟩; refine ⟨_, rfl, ?_⟩; have n_ := as3 (Kd.S_elder' zz42 (Kd.R_base ho0) hb) (Kd.R_lower ho0 (below_size zz0)) (below_step zz0 hb); clear HO282 HB; obtain ⟨HO282, HO287, HB⟩ := n_; (try clear hb ho0)) | ((with_reducible refine gate_dst (N := 1) rfl ?_); (try (refine gate_guard (by rfl) ?_; dsimp only)); refine box_event ?hg (N := 1) ?hd (cs := #[.string (⟨#[]⟩ : ByteArray), .string (⟨#[]⟩ : ByteArray), .slice none 0 0, .int .i64 0, .bool false, .bool false]) (t := 24) ?hr ?_; (case hd => rfl); (case hg => rfl); (case hr => exact zz29); intro gb292 hg w29 hbox hb; have n_ := as6 (Kd.S_below (Kd.S_elderB zz42 gb292 (Nat.le_of_eq hg.symm)) hb) (Kd.R_below zz45 hb) (below_step zz0 hb) hbox (gs w hg zz0) (gs w hg zz0); clear HO282 HO287 HB; obtain ⟨HO282, HO287, HB, BK292, GW292, GE292⟩ := n_; clear hb hbox hg; obtain ⟨hcz30_0, hcz30_1, hcz30_2, hcz30_3, hcz30_4, hcz30_5⟩ := cz6 BK292.out; obtain ⟨hfz30_0, hfz30_1, hfz30_2, hfz30_3, hfz30_4, hfz30_5⟩ := fz6 BK292.out; obtain ⟨Ao31, co31, eo31⟩ := Kd.R_slice HO287.out; subst eo31) | ((with_reducible refine gc 8 ?_); refine gL (some 10) Tryz.func8 #[.agg #[.string (⟨#[97, 64, 98]⟩ : ByteArray), .string (⟨#[]⟩ : ByteArray), .slice none 0 0, .int .i64 0, .bool false, .bool false]] ?_; (refine (item_Right.calls k (⟨#[97, 64, 98]⟩ : ByteArray) (⟨#[]⟩ : ByteArray) _ _ ([] : List ByteArray) 0 false false true _ ?side1 ?side2 A2.out (tabs_b HT.out zz18)).mono ?_); (case side1 => exact Kd.C_nil _ _); (case side2 => exact Nat.le_refl _); rintro e w32 ⟨rfl, hb⟩; refine ⟨_, rfl, ?_⟩; have n_ := as4 (Kd.S_below (by (with_reducible repeat (first | apply Kd.S_alloc | apply Kd.S_drewN | apply Kd.S_drew)); exact (Kd.S_mono (Kd.S_far (p := ⟨gb292, 5, none⟩) (Kd.S_far (p := ⟨gb292, 4, none⟩) (Kd.S_far (p := ⟨gb292, 3, none⟩) (Kd.S_far (p := ⟨gb292, 2, none⟩) (Kd.S_far (p := ⟨gb292, 1, none⟩) (Kd.S_far (p := ⟨gb292, 0, none⟩) (Kd.S_mono HO282.out (fun k_ hk => (⟨hk, hk.2⟩ : _ ∧ k_ ≠ gb292))) (fun _ hk => hk.2) (.string t283)) (fun _ hk => hk.2) (.string t284)) (fun _ hk => hk.2) (.slice Ao31 t285.length co31)) (fun _ hk => hk.2) (.int .i64 t288)) (fun _ hk => hk.2) (.bool t289)) (fun _ hk => hk.2) (.bool t290)) (fun _ h_ => h_.1))) hb) (Kd.R_below (by (with_reducible repeat (first | apply Kd.R_alloc | apply Kd.R_drewN | apply Kd.R_drew)); exact (Kd.R_mono (Kd.R_far (p := ⟨gb292, 5, none⟩) (Kd.R_far (p := ⟨gb292, 4, none⟩) (Kd.R_far (p := ⟨gb292, 3, none⟩) (Kd.R_far (p := ⟨gb292, 2, none⟩) (Kd.R_far (p := ⟨gb292, 1, none⟩) (Kd.R_far (p := ⟨gb292, 0, none⟩) (Kd.R_types HO287.out BK292.out (by decide)) (fun _ hk => hk.2) (.string t283)) (fun _ hk => hk.2) (.string t284)) (fun _ hk => hk.2) (.slice Ao31 t285.length co31)) (fun _ hk => hk.2) (.int .i64 t288)) (fun _ hk => hk.2) (.bool t289)) (fun _ hk => hk.2) (.bool t290)) (fun _ h_ => h_.1))) hb) (blk_below (g := gb292) (o := .cells #[.string t283, .string t284, .slice Ao31 t285.length co31, .int .i64 t288, .bool t289, .bool t290] 24 (0, 0)) (by (with_reducible repeat (first | refine blk_drewN ?_ _ | refine blk_drew ?_ | refine blk_alloc ?_ _)); refine blk_put (cs := #[.string t283, .string t284, .slice Ao31 t285.length co31, .int .i64 t288, .bool t289, .bool false]) ?_ 5 _ rfl; (with_reducible repeat (first | refine blk_drewN ?_ _ | refine blk_drew ?_ | refine blk_alloc ?_ _)); refine blk_put (cs := #[.string t283, .string t284, .slice Ao31 t285.length co31, .int .i64 t288, .bool false, .bool false]) ?_ 4 _ rfl; (with_reducible repeat (first | refine blk_drewN ?_ _ | refine blk_drew ?_ | refine blk_alloc ?_ _)); refine blk_put (cs := #[.string t283, .string t284, .slice Ao31 t285.length co31, .int .i64 0, .bool false, .bool false]) ?_ 3 _ rfl; (with_reducible repeat (first | refine blk_drewN ?_ _ | refine blk_drew ?_ | refine blk_alloc ?_ _)); refine blk_put (cs := #[.string t283, .string t284, .slice none 0 0, .int .i64 0, .bool false, .bool false]) ?_ 2 _ rfl; (with_reducible repeat (first | refine blk_drewN ?_ _ | refine blk_drew ?_ | refine blk_alloc ?_ _)); refine blk_put (cs := #[.string t283, .string (⟨#[]⟩ : ByteArray), .slice none 0 0, .int .i64 0, .bool false, .bool false]) ?_ 1 _ rfl; (with_reducible repeat (first | refine blk_drewN ?_ _ | refine blk_drew ?_ | refine blk_alloc ?_ _)); refine blk_put (cs := #[.string (⟨#[]⟩ : ByteArray), .string (⟨#[]⟩ : ByteArray), .slice none 0 0, .int .i64 0, .bool false, .bool false]) ?_ 0 _ rfl; (with_reducible repeat (first | refine blk_drewN ?_ _ | refine blk_drew ?_ | refine blk_alloc ?_ _)); exact BK292.out) hb) (below_step zz18 hb); clear HO282 HO287 BK292 HB; obtain ⟨HO282, HO287, BK292, HB⟩ := n_; (try clear hb); obtain ⟨hcz33_0, hcz33_1, hcz33_2, hcz33_3, hcz33_4, hcz33_5⟩ := cz6 BK292.out; obtain ⟨hfz33_0, hfz33_1, hfz33_2, hfz33_3, hfz33_4, hfz33_5⟩ := fz6 BK292.out))
   go_ret
   exact ⟨zz4, zz18⟩
  replace c4 := Bool.eq_false_iff.mpr c4
  subst c4
  have H1 : (some false) = some r := by rw [if_neg (show ¬ (false = true) by decide)] at H; exact H
  clear H
  have H := H1
  clear H1
  obtain rfl := Option.some.inj H
  go_enter Tryz.func6, Tryz.ntmps6
  go_wp2_with (first | ((with_reducible refine gate_dst (N := 5) rfl ?_); (try (refine gate_guard (by rfl) ?_; dsimp only)); refine Kd.S_lit k24 _ 24 ?hg (N := 5) ?hd (xs := ([(⟨(⟨#[97, 64, 98]⟩ : ByteArray), (⟨#[110]⟩ : ByteArray), ([] : List ByteArray), 0, false, false⟩ : S24)] : List (S24))) (inner := [.string (⟨#[97, 64, 98]⟩ : ByteArray), .string (⟨#[110]⟩ : ByteArray), .slice none 0 0, .int .i64 0, .bool false, .bool false]) (ok := fun _ => True) (okp := fun _ => True) ?hr ?hp (fun _ hk => hk) trivial (Below.refl _ _) (Nat.le_refl _) (by simp) ?_; (case hd => rfl); (case hg => rfl); (case hr => exact zz29); (case hp => exact (Reps.c6 (show Kd.M k24 _ _ _ (⟨(⟨#[97, 64, 98]⟩ : ByteArray), (⟨#[110]⟩ : ByteArray), ([] : List ByteArray), 0, false, false⟩ : S24) [.string (⟨#[97, 64, 98]⟩ : ByteArray), .string (⟨#[110]⟩ : ByteArray), .slice none 0 0, .int .i64 0, .bool false, .bool false] from (k24_mkM _ _ _ (⟨(⟨#[97, 64, 98]⟩ : ByteArray), (⟨#[110]⟩ : ByteArray), ([] : List ByteArray), 0, false, false⟩ : S24) (Kd.R_nil _ _ _ _ _))) (Reps.none _ _))); intro v281 w34 ho35 hb hg_ hnew_; clear hg_ hnew_; (first | rw [← Ny280.out] at ho35 | (simp only [Int.reduceToNat] at ho35; rw [← Ny280.out] at ho35)); have n_ := as2 (Kd.S_lower ho35 (below_size zz0)) (below_step zz0 hb); clear HB; obtain ⟨HO282, HB⟩ := n_; clear hb ho35; obtain ⟨Ao36, co36, eo36⟩ := Kd.S_slice HO282.out; subst eo36) | ((with_reducible refine gc 10 ?_); refine gL (some 6) Tryz.func10 #[.slice Ao36 y280.length co36, .string (⟨#[97, 64, 98]⟩ : ByteArray)] ?_; (with_reducible refine (item_Find.calls _ _ y280 (⟨#[97, 64, 98]⟩ : ByteArray) t283 t284 t285 t288 t289 t290 false _ ?side1 ?side2 A1.out).mono ?_); (case side1 => exact zz52); (case side2 => exact (Kd.S_reads' HO282.out).2.1); rintro e w37 ⟨v286, rfl, ho0, hb⟩; refine ⟨_, rfl, ?_⟩; have n_ := as3 (Kd.S_elder' zz42 (Kd.R_base ho0) hb) (Kd.R_lower ho0 (below_size zz0)) (below_step zz0 hb); clear HO282 HB; obtain ⟨HO282, HO287, HB⟩ := n_; (try clear hb ho0)) | ((with_reducible refine gate_dst (N := 1) rfl ?_); (try (refine gate_guard (by rfl) ?_; dsimp only)); refine box_event ?hg (N := 1) ?hd (cs := #[.string (⟨#[]⟩ : ByteArray), .string (⟨#[]⟩ : ByteArray), .slice none 0 0, .int .i64 0, .bool false, .bool false]) (t := 24) ?hr ?_; (case hd => rfl); (case hg => rfl); (case hr => exact zz29); intro gb292 hg w38 hbox hb; have n_ := as6 (Kd.S_below (Kd.S_elderB zz42 gb292 (Nat.le_of_eq hg.symm)) hb) (Kd.R_below zz45 hb) (below_step zz0 hb) hbox (gs w hg zz0) (gs w hg zz0); clear HO282 HO287 HB; obtain ⟨HO282, HO287, HB, BK292, GW292, GE292⟩ := n_; clear hb hbox hg; obtain ⟨hcz39_0, hcz39_1, hcz39_2, hcz39_3, hcz39_4, hcz39_5⟩ := cz6 BK292.out; obtain ⟨hfz39_0, hfz39_1, hfz39_2, hfz39_3, hfz39_4, hfz39_5⟩ := fz6 BK292.out; obtain ⟨Ao40, co40, eo40⟩ := Kd.R_slice HO287.out; subst eo40) | ((with_reducible refine gc 8 ?_); refine gL (some 10) Tryz.func8 #[.agg #[.string (⟨#[97, 64, 98]⟩ : ByteArray), .string (⟨#[]⟩ : ByteArray), .slice none 0 0, .int .i64 0, .bool false, .bool false]] ?_; (refine (item_Right.calls k (⟨#[97, 64, 98]⟩ : ByteArray) (⟨#[]⟩ : ByteArray) _ _ ([] : List ByteArray) 0 false false true _ ?side1 ?side2 A2.out (tabs_b HT.out zz18)).mono ?_); (case side1 => exact Kd.C_nil _ _); (case side2 => exact Nat.le_refl _); rintro e w41 ⟨rfl, hb⟩; refine ⟨_, rfl, ?_⟩; have n_ := as4 (Kd.S_below (by (with_reducible repeat (first | apply Kd.S_alloc | apply Kd.S_drewN | apply Kd.S_drew)); exact (Kd.S_mono (Kd.S_far (p := ⟨gb292, 5, none⟩) (Kd.S_far (p := ⟨gb292, 4, none⟩) (Kd.S_far (p := ⟨gb292, 3, none⟩) (Kd.S_far (p := ⟨gb292, 2, none⟩) (Kd.S_far (p := ⟨gb292, 1, none⟩) (Kd.S_far (p := ⟨gb292, 0, none⟩) (Kd.S_mono HO282.out (fun k_ hk => (⟨hk, hk.2⟩ : _ ∧ k_ ≠ gb292))) (fun _ hk => hk.2) (.string t283)) (fun _ hk => hk.2) (.string t284)) (fun _ hk => hk.2) (.slice Ao40 t285.length co40)) (fun _ hk => hk.2) (.int .i64 t288)) (fun _ hk => hk.2) (.bool t289)) (fun _ hk => hk.2) (.bool t290)) (fun _ h_ => h_.1))) hb) (Kd.R_below (by (with_reducible repeat (first | apply Kd.R_alloc | apply Kd.R_drewN | apply Kd.R_drew)); exact (Kd.R_mono (Kd.R_far (p := ⟨gb292, 5, none⟩) (Kd.R_far (p := ⟨gb292, 4, none⟩) (Kd.R_far (p := ⟨gb292, 3, none⟩) (Kd.R_far (p := ⟨gb292, 2, none⟩) (Kd.R_far (p := ⟨gb292, 1, none⟩) (Kd.R_far (p := ⟨gb292, 0, none⟩) (Kd.R_types HO287.out BK292.out (by decide)) (fun _ hk => hk.2) (.string t283)) (fun _ hk => hk.2) (.string t284)) (fun _ hk => hk.2) (.slice Ao40 t285.length co40)) (fun _ hk => hk.2) (.int .i64 t288)) (fun _ hk => hk.2) (.bool t289)) (fun _ hk => hk.2) (.bool t290)) (fun _ h_ => h_.1))) hb) (blk_below (g := gb292) (o := .cells #[.string t283, .string t284, .slice Ao40 t285.length co40, .int .i64 t288, .bool t289, .bool t290] 24 (0, 0)) (by (with_reducible repeat (first | refine blk_drewN ?_ _ | refine blk_drew ?_ | refine blk_alloc ?_ _)); refine blk_put (cs := #[.string t283, .string t284, .slice Ao40 t285.length co40, .int .i64 t288, .bool t289, .bool false]) ?_ 5 _ rfl; (with_reducible repeat (first | refine blk_drewN ?_ _ | refine blk_drew ?_ | refine blk_alloc ?_ _)); refine blk_put (cs := #[.string t283, .string t284, .slice Ao40 t285.length co40, .int .i64 t288, .bool false, .bool false]) ?_ 4 _ rfl; (with_reducible repeat (first | refine blk_drewN ?_ _ | refine blk_drew ?_ | refine blk_alloc ?_ _)); refine blk_put (cs := #[.string t283, .string t284, .slice Ao40 t285.length co40, .int .i64 0, .bool false, .bool false]) ?_ 3 _ rfl; (with_reducible repeat (first | refine blk_drewN ?_ _ | refine blk_drew ?_ | refine blk_alloc ?_ _)); refine blk_put (cs := #[.string t283, .string t284, .slice none 0 0, .int .i64 0, .bool false, .bool false]) ?_ 2 _ rfl; (with_reducible repeat (first | refine blk_drewN ?_ _ | refine blk_drew ?_ | refine blk_alloc ?_ _)); refine blk_put (cs := #[.string t283, .string (⟨#[]⟩ : ByteArray), .slice none 0 0, .int .i64 0, .bool false, .bool false]) ?_ 1 _ rfl; (with_reducible repeat (first | refine blk_drewN ?_ _ | refine blk_drew ?_ | refine blk_alloc ?_ _)); refine blk_put (cs := #[.string (⟨#[]⟩ : ByteArray), .string (⟨#[]⟩ : ByteArray), .slice none 0 0, .int .i64 0, .bool false, .bool false]) ?_ 0 _ rfl; (with_reducible repeat (first | refine blk_drewN ?_ _ | refine blk_drew ?_ | refine blk_alloc ?_ _)); exact BK292.out) hb) (below_step zz18 hb); clear HO282 HO287 BK292 HB; obtain ⟨HO282, HO287, BK292, HB⟩ := n_; (try clear hb)))
  go_ret
  exact ⟨zz4, zz18⟩
 replace c3 := Bool.eq_false_iff.mpr c3
 subst c3
 have H1 : (some false) = some r := by rw [if_neg (show ¬ (false = true) by decide)] at H; exact H
 clear H
 have H := H1
 clear H1
 obtain rfl := Option.some.inj H
 go_enter Tryz.func6, Tryz.ntmps6
 go_wp2_with (first | ((with_reducible refine gate_dst (N := 5) rfl ?_); (try (refine gate_guard (by rfl) ?_; dsimp only)); refine Kd.S_lit k24 _ 24 ?hg (N := 5) ?hd (xs := ([(⟨(⟨#[97, 64, 98]⟩ : ByteArray), (⟨#[110]⟩ : ByteArray), ([] : List ByteArray), 0, false, false⟩ : S24)] : List (S24))) (inner := [.string (⟨#[97, 64, 98]⟩ : ByteArray), .string (⟨#[110]⟩ : ByteArray), .slice none 0 0, .int .i64 0, .bool false, .bool false]) (ok := fun _ => True) (okp := fun _ => True) ?hr ?hp (fun _ hk => hk) trivial (Below.refl _ _) (Nat.le_refl _) (by simp) ?_; (case hd => rfl); (case hg => rfl); (case hr => exact zz29); (case hp => exact (Reps.c6 (show Kd.M k24 _ _ _ (⟨(⟨#[97, 64, 98]⟩ : ByteArray), (⟨#[110]⟩ : ByteArray), ([] : List ByteArray), 0, false, false⟩ : S24) [.string (⟨#[97, 64, 98]⟩ : ByteArray), .string (⟨#[110]⟩ : ByteArray), .slice none 0 0, .int .i64 0, .bool false, .bool false] from (k24_mkM _ _ _ (⟨(⟨#[97, 64, 98]⟩ : ByteArray), (⟨#[110]⟩ : ByteArray), ([] : List ByteArray), 0, false, false⟩ : S24) (Kd.R_nil _ _ _ _ _))) (Reps.none _ _))); intro v281 w42 ho43 hb hg_ hnew_; clear hg_ hnew_; (first | rw [← Ny280.out] at ho43 | (simp only [Int.reduceToNat] at ho43; rw [← Ny280.out] at ho43)); have n_ := as2 (Kd.S_lower ho43 (below_size zz0)) (below_step zz0 hb); clear HB; obtain ⟨HO282, HB⟩ := n_; clear hb ho43; obtain ⟨Ao44, co44, eo44⟩ := Kd.S_slice HO282.out; subst eo44) | ((with_reducible refine gc 10 ?_); refine gL (some 6) Tryz.func10 #[.slice Ao44 y280.length co44, .string (⟨#[97, 64, 98]⟩ : ByteArray)] ?_; (with_reducible refine (item_Find.calls _ _ y280 (⟨#[97, 64, 98]⟩ : ByteArray) t283 t284 t285 t288 t289 t290 t291 _ ?side1 ?side2 A1.out).mono ?_); (case side1 => exact zz52); (case side2 => exact (Kd.S_reads' HO282.out).2.1); rintro e w45 ⟨v286, rfl, ho0, hb⟩; refine ⟨_, rfl, ?_⟩; have n_ := as3 (Kd.S_elder' zz42 (Kd.R_base ho0) hb) (Kd.R_lower ho0 (below_size zz0)) (below_step zz0 hb); clear HO282 HB; obtain ⟨HO282, HO287, HB⟩ := n_; (try clear hb ho0)) | ((with_reducible refine gate_dst (N := 1) rfl ?_); (try (refine gate_guard (by rfl) ?_; dsimp only)); refine box_event ?hg (N := 1) ?hd (cs := #[.string (⟨#[]⟩ : ByteArray), .string (⟨#[]⟩ : ByteArray), .slice none 0 0, .int .i64 0, .bool false, .bool false]) (t := 24) ?hr ?_; (case hd => rfl); (case hg => rfl); (case hr => exact zz29); intro gb292 hg w46 hbox hb; have n_ := as6 (Kd.S_below (Kd.S_elderB zz42 gb292 (Nat.le_of_eq hg.symm)) hb) (Kd.R_below zz45 hb) (below_step zz0 hb) hbox (gs w hg zz0) (gs w hg zz0); clear HO282 HO287 HB; obtain ⟨HO282, HO287, HB, BK292, GW292, GE292⟩ := n_; clear hb hbox hg; obtain ⟨hcz47_0, hcz47_1, hcz47_2, hcz47_3, hcz47_4, hcz47_5⟩ := cz6 BK292.out; obtain ⟨hfz47_0, hfz47_1, hfz47_2, hfz47_3, hfz47_4, hfz47_5⟩ := fz6 BK292.out; obtain ⟨Ao48, co48, eo48⟩ := Kd.R_slice HO287.out; subst eo48) | ((with_reducible refine gc 8 ?_); refine gL (some 10) Tryz.func8 #[.agg #[.string (⟨#[97, 64, 98]⟩ : ByteArray), .string (⟨#[]⟩ : ByteArray), .slice none 0 0, .int .i64 0, .bool false, .bool false]] ?_; (refine (item_Right.calls k (⟨#[97, 64, 98]⟩ : ByteArray) (⟨#[]⟩ : ByteArray) _ _ ([] : List ByteArray) 0 false false false _ ?side1 ?side2 A2.out (tabs_b HT.out zz18)).mono ?_); (case side1 => exact Kd.C_nil _ _); (case side2 => exact Nat.le_refl _); rintro e w49 ⟨rfl, hb⟩; refine ⟨_, rfl, ?_⟩; have n_ := as4 (Kd.S_below (by (with_reducible repeat (first | apply Kd.S_alloc | apply Kd.S_drewN | apply Kd.S_drew)); exact (Kd.S_mono (Kd.S_far (p := ⟨gb292, 5, none⟩) (Kd.S_far (p := ⟨gb292, 4, none⟩) (Kd.S_far (p := ⟨gb292, 3, none⟩) (Kd.S_far (p := ⟨gb292, 2, none⟩) (Kd.S_far (p := ⟨gb292, 1, none⟩) (Kd.S_far (p := ⟨gb292, 0, none⟩) (Kd.S_mono HO282.out (fun k_ hk => (⟨hk, hk.2⟩ : _ ∧ k_ ≠ gb292))) (fun _ hk => hk.2) (.string t283)) (fun _ hk => hk.2) (.string t284)) (fun _ hk => hk.2) (.slice Ao48 t285.length co48)) (fun _ hk => hk.2) (.int .i64 t288)) (fun _ hk => hk.2) (.bool t289)) (fun _ hk => hk.2) (.bool t290)) (fun _ h_ => h_.1))) hb) (Kd.R_below (by (with_reducible repeat (first | apply Kd.R_alloc | apply Kd.R_drewN | apply Kd.R_drew)); exact (Kd.R_mono (Kd.R_far (p := ⟨gb292, 5, none⟩) (Kd.R_far (p := ⟨gb292, 4, none⟩) (Kd.R_far (p := ⟨gb292, 3, none⟩) (Kd.R_far (p := ⟨gb292, 2, none⟩) (Kd.R_far (p := ⟨gb292, 1, none⟩) (Kd.R_far (p := ⟨gb292, 0, none⟩) (Kd.R_types HO287.out BK292.out (by decide)) (fun _ hk => hk.2) (.string t283)) (fun _ hk => hk.2) (.string t284)) (fun _ hk => hk.2) (.slice Ao48 t285.length co48)) (fun _ hk => hk.2) (.int .i64 t288)) (fun _ hk => hk.2) (.bool t289)) (fun _ hk => hk.2) (.bool t290)) (fun _ h_ => h_.1))) hb) (blk_below (g := gb292) (o := .cells #[.string t283, .string t284, .slice Ao48 t285.length co48, .int .i64 t288, .bool t289, .bool t290] 24 (0, 0)) (by (with_reducible repeat (first | refine blk_drewN ?_ _ | refine blk_drew ?_ | refine blk_alloc ?_ _)); refine blk_put (cs := #[.string t283, .string t284, .slice Ao48 t285.length co48, .int .i64 t288, .bool t289, .bool false]) ?_ 5 _ rfl; (with_reducible repeat (first | refine blk_drewN ?_ _ | refine blk_drew ?_ | refine blk_alloc ?_ _)); refine blk_put (cs := #[.string t283, .string t284, .slice Ao48 t285.length co48, .int .i64 t288, .bool false, .bool false]) ?_ 4 _ rfl; (with_reducible repeat (first | refine blk_drewN ?_ _ | refine blk_drew ?_ | refine blk_alloc ?_ _)); refine blk_put (cs := #[.string t283, .string t284, .slice Ao48 t285.length co48, .int .i64 0, .bool false, .bool false]) ?_ 3 _ rfl; (with_reducible repeat (first | refine blk_drewN ?_ _ | refine blk_drew ?_ | refine blk_alloc ?_ _)); refine blk_put (cs := #[.string t283, .string t284, .slice none 0 0, .int .i64 0, .bool false, .bool false]) ?_ 2 _ rfl; (with_reducible repeat (first | refine blk_drewN ?_ _ | refine blk_drew ?_ | refine blk_alloc ?_ _)); refine blk_put (cs := #[.string t283, .string (⟨#[]⟩ : ByteArray), .slice none 0 0, .int .i64 0, .bool false, .bool false]) ?_ 1 _ rfl; (with_reducible repeat (first | refine blk_drewN ?_ _ | refine blk_drew ?_ | refine blk_alloc ?_ _)); refine blk_put (cs := #[.string (⟨#[]⟩ : ByteArray), .string (⟨#[]⟩ : ByteArray), .slice none 0 0, .int .i64 0, .bool false, .bool false]) ?_ 0 _ rfl; (with_reducible repeat (first | refine blk_drewN ?_ _ | refine blk_drew ?_ | refine blk_alloc ?_ _)); exact BK292.out) hb) (below_step zz18 hb); clear HO282 HO287 BK292 HB; obtain ⟨HO282, HO287, BK292, HB⟩ := n_; (try clear hb)))
 go_ret
 exact ⟨zz4, zz18⟩
def cardexplay_mod.f (a0 : Int) (a1 : Int) : Option (Int) := if (IntKind.u64.wrap (a1)) = 0 then (none) else (some (wrap64 (Int.tmod (IntKind.u64.wrap (a0)) (IntKind.u64.wrap (a1)))))
set_option maxHeartbeats 8000000 in
set_option maxRecDepth 100000 in
theorem cardexplay_mod.calls (a0 : Int) (a1 : Int) (r : Int) (w : World) (h : cardexplay_mod.f a0 a1 = some r) :
  Calls Tryz.prog 15 #[.int .i64 a0, .int .i64 a1] w fun e w' => e = .returned (.int .i64 r) ∧ Drawn0 w w' := by
 have H : (if (IntKind.u64.wrap (a1)) = 0 then (none) else (some (wrap64 (Int.tmod (IntKind.u64.wrap (a0)) (IntKind.u64.wrap (a1)))))) = some r := h
 clear h
 by_cases c3 : (IntKind.u64.wrap (a1)) = 0
 ·rw [if_pos c3] at H
  exact absurd H (by simp)
 rw [if_neg c3] at H
 obtain ⟨c3b0, c3b1⟩ := eqF c3
 obtain rfl := Option.some.inj H
 go_enter Tryz.func15, Tryz.ntmps15
 go_wp2
 go_ret
 exact ⟨zz1, zz17⟩
def cardexref01_cut.l0 : Nat → ByteArray → Int → Int → Option (ByteArray × ByteArray × Bool)
 | 0, _, _, _ => none
 | k + 1, x0, x1, x7 => if x7 < (x0.size : Int) then (if 0 ≤ x7 then (if (bt x0 x7) = x1 then (if x7 ≤ (x0.size : Int) then (if 0 ≤ (wrap64 (x7 + 1)) then (if (wrap64 (x7 + 1)) ≤ (x0.size : Int) then (some ((x0.extract 0 (x7 : Int).toNat), (x0.extract ((wrap64 (x7 + 1)) : Int).toNat x0.size), true)) else (none)) else (none)) else (none)) else (cardexref01_cut.l0 k x0 x1 (wrap64 (x7 + 1)))) else (none)) else (some (x0, (⟨#[]⟩ : ByteArray), false))
def cardexref01_cut.f (k : Nat) (a0 : ByteArray) (a1 : Int) : Option (ByteArray × ByteArray × Bool) := cardexref01_cut.l0 k a0 a1 0
set_option maxHeartbeats 8000000 in
set_option maxRecDepth 100000 in
theorem cardexref01_cut.calls (k : Nat) (a0 : ByteArray) (a1 : Int) (r1 : ByteArray) (r2 : ByteArray) (r3 : Bool) (w : World) (h : cardexref01_cut.f k a0 a1 = some (r1, r2, r3)) :
  Calls Tryz.prog 56 #[.string a0, .int .u8 a1] w fun e w' => e = .returned (.tuple #[.string r1, .string r2, .bool r3]) ∧ Drawn0 w w' := by
 have H : (cardexref01_cut.l0 k a0 a1 0) = some (r1, r2, r3) := h
 clear h
 have H' := Aside0.mk H
 clear H
 go_enter Tryz.func56, Tryz.ntmps56
 go_wp2
 repeat (go_quiet (fail); try go_wp2)
 go_loopg [7] k (fun kq v7 w' => ∃ (x7_1 : Int), v7 = .int .i64 x7_1 ∧ Aside0 (cardexref01_cut.l0 kq a0 a1 x7_1 = some (r1, r2, r3)) ∧ Aside0 (kq ≤ k) ∧ Drawn0 w w')
 case atStart => exact ⟨(0), zz1, H', ⟨Nat.le_refl _⟩, zz17⟩
 case round =>
  clear H'
  try clear p2
  obtain ⟨x7_1, rfl, HA, HK1, ⟨m1, rfl⟩⟩ := hrel
  cases gk with
  | zero => exact absurd HA.out (by simp [cardexref01_cut.l0])
  | succ k1 =>
   have H := HA.out
   clear HA
   simp only [cardexref01_cut.l0] at H
   by_cases c3 : x7_1 < (a0.size : Int)
   ·rw [if_pos c3] at H
    have c3b0 := decide_eq_true c3
    clear c3
    by_cases c4 : 0 ≤ x7_1
    ·rw [if_pos c4] at H
     have c4b0 := decide_eq_true c4
     clear c4
     by_cases c6 : (bt a0 x7_1) = a1
     ·rw [if_pos c6] at H
      obtain ⟨c6b0, c6b1⟩ := eqT c6
      clear c6
      have c7b0 := eq_true (of_decide_eq_true zz6 : 0 ≤ x7_1)
      by_cases c8 : x7_1 ≤ (a0.size : Int)
      ·rw [if_pos c8] at H
       have c8b0 := eq_true c8
       have c8b1 : decide (x7_1 ≤ (a0.size : Int)) = true := decide_eq_true c8
       clear c8
       obtain ⟨y304, hy304⟩ : ∃ y_ : ByteArray, y_ = (a0.extract 0 (x7_1 : Int).toNat) := ⟨_, rfl⟩
       replace H : (if 0 ≤ (wrap64 (x7_1 + 1)) then (if (wrap64 (x7_1 + 1)) ≤ (a0.size : Int) then (some (y304, (a0.extract ((wrap64 (x7_1 + 1)) : Int).toNat a0.size), true)) else (none)) else (none)) = some (r1, r2, r3) := by first | (rw [hy304]; with_reducible exact H) | (have H2_ := (Option.bind_some _ _).symm.trans H; rw [hy304]; with_reducible exact H2_) | (have H2_ := (Option.bind_some _ _).symm.trans H; with_reducible exact H2_) | with_reducible exact H | (rw [hy304]; exact H) | exact H
       have Ny304 := Aside0.mk hy304
       clear hy304
       have ey304 : (a0.extract 0 (x7_1 : Int).toNat) = y304 := Ny304.out.symm
       obtain ⟨ji9, hji9⟩ : ∃ j_ : Int, (wrap64 (x7_1 + 1)) = j_ := ⟨_, rfl⟩
       replace H : (if 0 ≤ (ji9) then (if (ji9) ≤ (a0.size : Int) then (some (y304, (a0.extract ((ji9) : Int).toNat a0.size), true)) else (none)) else (none)) = some (r1, r2, r3) := by first | (rw [hji9] at H; exact H) | (simp only [hji9] at H ⊢; exact H)
       have hji9w : (IntKind.i64.wrap (x7_1 + 1)) = ji9 := (i64_w _).trans hji9
       by_cases c10 : 0 ≤ (ji9)
       ·rw [if_pos c10] at H
        have c10b0 := eq_true c10
        have c10b1 : decide (0 ≤ (ji9)) = true := decide_eq_true c10
        clear c10
        by_cases c11 : (ji9) ≤ (a0.size : Int)
        ·rw [if_pos c11] at H
         have c11b0 := eq_true c11
         have c11b1 : decide ((ji9) ≤ (a0.size : Int)) = true := decide_eq_true c11
         clear c11
         obtain ⟨y305, hy305⟩ : ∃ y_ : ByteArray, y_ = (a0.extract ((ji9) : Int).toNat a0.size) := ⟨_, rfl⟩
         replace H : (some (y304, y305, true)) = some (r1, r2, r3) := by first | (rw [hy305]; with_reducible exact H) | (have H2_ := (Option.bind_some _ _).symm.trans H; rw [hy305]; with_reducible exact H2_) | (have H2_ := (Option.bind_some _ _).symm.trans H; with_reducible exact H2_) | with_reducible exact H | (rw [hy305]; exact H) | exact H
         have Ny305 := Aside0.mk hy305
         clear hy305
         have ey305 : (a0.extract ((ji9) : Int).toNat a0.size) = y305 := Ny305.out.symm
         simp only [Option.some.injEq, Prod.mk.injEq] at H
         obtain ⟨rfl, rfl, rfl⟩ := H
         have p5 : 0 ≤ (x7_1 : Int) := of_decide_eq_true zz6
         have q5 : x7_1 < (a0.size : Int) := of_decide_eq_true zz6
         have hx5 := bt_at a0 x7_1
         replace p5 := eq_true p5
         replace q5 := eq_true q5
         go_wp2
         repeat (go_quiet (fail); try go_wp2)
         go_ret3
         exact ⟨by first | rfl | (simp; done) | (simp only [← hji9] <;> (first | rfl | simp)) | exact congrArg Value.bool (nemp _) | exact congrArg Value.bool (emp _) | (simp [*]; done), zz17⟩
        rw [if_neg c11] at H
        exact absurd H (by simp)
       rw [if_neg c10] at H
       exact absurd H (by simp)
      rw [if_neg c8] at H
      exact absurd H (by simp)
     rw [if_neg c6] at H
     obtain ⟨c6b0, c6b1⟩ := eqF c6
     have H' := Aside0.mk H
     clear H
     have p5 : 0 ≤ (x7_1 : Int) := of_decide_eq_true zz6
     have q5 : x7_1 < (a0.size : Int) := of_decide_eq_true zz6
     have hx5 := bt_at a0 x7_1
     replace p5 := eq_true p5
     replace q5 := eq_true q5
     go_wp2
     repeat (go_quiet (fail); try go_wp2)
     go_roundg k1
     case measure => have := HK1.out; omega
     case rel => exact ⟨(wrap64 (x7_1 + 1)), zz1, H', ⟨zz58⟩, zz17⟩
    rw [if_neg c4] at H
    exact absurd H (by simp)
   rw [if_neg c3] at H
   have c3b0 := decide_eq_false c3
   clear c3
   simp only [Option.some.injEq, Prod.mk.injEq] at H
   obtain ⟨rfl, rfl, rfl⟩ := H
   go_wp2
   repeat (go_quiet (fail); try go_wp2)
   go_ret3
   exact ⟨zz1, zz17⟩
mutual
def cardexref01_decode.j2 : Nat → ByteArray → Int → Int → Int → Int → Option (Int × Int)
 | 0, _, _, _, _, _ => none
 | k + 1, x0, x1, x6, x7, x8 => if (wrap64 (x1 + x7)) > (x0.size : Int) then (some (0, 0)) else (cardexref01_decode.l0 k x0 x1 x6 x7 x8 1)
def cardexref01_decode.l0 : Nat → ByteArray → Int → Int → Int → Int → Int → Option (Int × Int)
 | 0, _, _, _, _, _, _ => none
 | k + 1, x0, x1, x6, x7, x8, x9 => if x9 < x7 then (if 0 ≤ (wrap64 (x1 + x9)) then (if (wrap64 (x1 + x9)) < (x0.size : Int) then (if (Go.bits .and .u8 (bt x0 (wrap64 (x1 + x9))) 192) = 128 then (cardexref01_decode.l0 k x0 x1 (Go.bits .or .i64 (wrap64 (x6 * 64)) (wrap64 (Go.bits .and .u8 (bt x0 (wrap64 (x1 + x9))) 63))) x7 x8 (wrap64 (x9 + 1))) else (some (0, 0))) else (none)) else (none)) else (if x6 < x8 then (some (0, 0)) else (if x6 > 1114111 then (some (0, 0)) else (if x6 ≥ 55296 then (if x6 ≤ 57343 then (some (0, 0)) else (some (x6, x7))) else (some (x6, x7)))))
def cardexref01_decode.j0 : Nat → ByteArray → Int → Int → Bool → Option (Int × Int)
 | 0, _, _, _, _ => none
 | k + 1, x0, x1, x6, x17 => if x17 = true then (cardexref01_decode.j2 k x0 x1 (Go.bits .and .i64 x6 31) 2 128) else (if x6 ≥ 224 then (cardexref01_decode.j1 k x0 x1 x6 (decide (x6 < 240))) else (cardexref01_decode.j1 k x0 x1 x6 false))
def cardexref01_decode.j1 : Nat → ByteArray → Int → Int → Bool → Option (Int × Int)
 | 0, _, _, _, _ => none
 | k + 1, x0, x1, x6, x26 => if x26 = true then (cardexref01_decode.j2 k x0 x1 (Go.bits .and .i64 x6 15) 3 2048) else (if x6 ≥ 240 then (if x6 < 248 then (cardexref01_decode.j2 k x0 x1 (Go.bits .and .i64 x6 7) 4 65536) else (some (0, 0))) else (some (0, 0)))
end
def cardexref01_decode.f (k : Nat) (a0 : ByteArray) (a1 : Int) : Option (Int × Int) := if 0 ≤ a1 then (if a1 < (a0.size : Int) then (if (wrap64 (bt a0 a1)) < 128 then (cardexref01_decode.j2 k a0 a1 (wrap64 (bt a0 a1)) 1 0) else (if (wrap64 (bt a0 a1)) ≥ 192 then (cardexref01_decode.j0 k a0 a1 (wrap64 (bt a0 a1)) (decide ((wrap64 (bt a0 a1)) < 224))) else (cardexref01_decode.j0 k a0 a1 (wrap64 (bt a0 a1)) false))) else (none)) else (none)
set_option maxRecDepth 100000 in
theorem lf17 {P : Prop} (h : P := by
 go_wp2
 first
  | (go_meet; (case rel => exact ⟨_, (wrap64 (bt a0 a1)), (1), (0), zz1, zz1, zz1, H', ⟨zz57⟩, zz17⟩))
  | (go_meet; (case rel => exact ⟨_, (decide ((wrap64 (bt a0 a1)) < 224)), zz1, H', ⟨zz57⟩, zz17⟩))
  | (go_meet; (case rel => exact ⟨_, (false), zz1, H', ⟨zz57⟩, zz17⟩))
  | (go_meet; (case rel => exact ⟨_, (Go.bits .and .i64 (wrap64 (bt a0 a1)) 31), (2), (128), zz1, zz1, zz1, H', ⟨zz74⟩, zz17⟩))
  | (go_meet; (case rel => exact ⟨_, (decide ((wrap64 (bt a0 a1)) < 240)), zz1, H', ⟨zz74⟩, zz17⟩))
  | (go_meet; (case rel => exact ⟨_, (false), zz1, H', ⟨zz74⟩, zz17⟩))
  | (go_meet; (case rel => exact ⟨_, (Go.bits .and .i64 (wrap64 (bt a0 a1)) 15), (3), (2048), zz1, zz1, zz1, H', ⟨by have := HJ7.out; have := HJ10.out; first | omega | exact Nat.le_refl _⟩, zz17⟩))
  | (go_meet; (case rel => exact ⟨_, (Go.bits .and .i64 (wrap64 (bt a0 a1)) 7), (4), (65536), zz1, zz1, zz1, H', ⟨by have := HJ7.out; have := HJ10.out; first | omega | exact Nat.le_refl _⟩, zz17⟩))
  | (go_ret2; exact ⟨zz1, zz17⟩)
  | (go_roundg k2; (case measure => have := HJ5.out; have := HK2.out; omega); (case rel => exact ⟨(Go.bits .or .i64 (wrap64 (x6_2 * 64)) (wrap64 (Go.bits .and .u8 (bt a0 (ji18)) 63))), (wrap64 (x9_2 + 1)), (by first | rfl | (simp; done) | (simp only [← hji18] <;> (first | rfl | simp)) | exact congrArg Value.bool (nemp _) | exact congrArg Value.bool (emp _) | (simp [*]; done)), zz1, H', ⟨by have := HJ5.out; have := HK2.out; omega⟩, zz17⟩))
  | (go_ret2; exact ⟨by first | rfl | (simp; done) | (simp only [← hji18] <;> (first | rfl | simp)) | exact congrArg Value.bool (nemp _) | exact congrArg Value.bool (emp _) | (simp [*]; done), zz17⟩)) : P := h
set_option maxHeartbeats 8000000 in
set_option maxRecDepth 100000 in
theorem cardexref01_decode.calls (k : Nat) (a0 : ByteArray) (a1 : Int) (r1 : Int) (r2 : Int) (w : World) (h : cardexref01_decode.f k a0 a1 = some (r1, r2)) :
  Calls Tryz.prog 80 #[.string a0, .int .i64 a1] w fun e w' => e = .returned (.tuple #[.int .i64 r1, .int .i64 r2]) ∧ Drawn0 w w' := by
 have H : (if 0 ≤ a1 then (if a1 < (a0.size : Int) then (if (wrap64 (bt a0 a1)) < 128 then (cardexref01_decode.j2 k a0 a1 (wrap64 (bt a0 a1)) 1 0) else (if (wrap64 (bt a0 a1)) ≥ 192 then (cardexref01_decode.j0 k a0 a1 (wrap64 (bt a0 a1)) (decide ((wrap64 (bt a0 a1)) < 224))) else (cardexref01_decode.j0 k a0 a1 (wrap64 (bt a0 a1)) false))) else (none)) else (none)) = some (r1, r2) := h
 clear h
 by_cases c3 : 0 ≤ a1
 ·rw [if_pos c3] at H
  have c3b0 := decide_eq_true c3
  clear c3
  by_cases c4 : a1 < (a0.size : Int)
  ·rw [if_pos c4] at H
   have c4b0 := decide_eq_true c4
   clear c4
   have HC6 := Aside0.mk H
   clear H
   have p5 : 0 ≤ (a1 : Int) := of_decide_eq_true zz6
   have q5 : a1 < (a0.size : Int) := of_decide_eq_true zz6
   have hx5 := bt_at a0 a1
   replace p5 := eq_true p5
   replace q5 := eq_true q5
   go_enter Tryz.func80, Tryz.ntmps80
   go_upto_block 0 with (fail)
   go_cut [6, 7, 8] (fun v6 v7 v8 wc => ∃ (kq : Nat) (x6_5 : Int) (x7_5 : Int) (x8_5 : Int), v6 = .int .i64 x6_5 ∧ v7 = .int .i64 x7_5 ∧ v8 = .int .i64 x8_5 ∧ Aside0 (cardexref01_decode.j2 kq a0 a1 x6_5 x7_5 x8_5 = some (r1, r2)) ∧ Aside0 (kq ≤ k) ∧ Drawn0 w wc)
   case first =>
    have H := HC6.out
    clear HC6
    by_cases c7 : (wrap64 (bt a0 a1)) < 128
    ·rw [if_pos c7] at H
     have c7b0 := decide_eq_true c7
     clear c7
     (first | rw [c7b0] | (simp only [i64_w, i32_w]; rw [c7b0]) | skip)
     have H' := Aside0.mk H
     clear H
     exact lf17
    rw [if_neg c7] at H
    have c7b0 := decide_eq_false c7
    clear c7
    (first | rw [c7b0] | (simp only [i64_w, i32_w]; rw [c7b0]) | skip)
    have HC8 := Aside0.mk H
    clear H
    go_upto_region 5 with (fail)
    go_cut [17] (fun v17 wc => ∃ (kq : Nat) (x17_7 : Bool), v17 = .bool x17_7 ∧ Aside0 (cardexref01_decode.j0 kq a0 a1 (wrap64 (bt a0 a1)) x17_7 = some (r1, r2)) ∧ Aside0 (kq ≤ k) ∧ Drawn0 w wc)
    case first =>
     have H := HC8.out
     clear HC8
     by_cases c9 : (wrap64 (bt a0 a1)) ≥ 192
     ·rw [if_pos c9] at H
      have c9b0 := decide_eq_true c9
      clear c9
      (first | rw [c9b0] | (simp only [i64_w, i32_w]; rw [c9b0]) | skip)
      have H' := Aside0.mk H
      clear H
      exact lf17
     rw [if_neg c9] at H
     have c9b0 := decide_eq_false c9
     clear c9
     (first | rw [c9b0] | (simp only [i64_w, i32_w]; rw [c9b0]) | skip)
     have H' := Aside0.mk H
     clear H
     exact lf17
    case rest =>
     clear HC8
     try clear p2
     try clear c3
     try clear c3b0
     try clear c4
     try clear c4b0
     try clear p5
     try clear q5
     try clear hx5
     try clear p6
     try clear c7
     try clear c7b0
     try clear c8
     try clear c9
     try clear c9b0
     try clear p5
     try clear q5
     obtain ⟨kq, x17_7, rfl, HA, HJ7, ⟨mc7, rfl⟩⟩ := hcut
     cases kq with
     | zero => exact absurd HA.out (by simp [cardexref01_decode.j0])
     | succ kj7 =>
      have H := HA.out
      clear HA
      simp only [cardexref01_decode.j0] at H
      by_cases c10 : x17_7 = true
      ·subst c10
       have H1 : (cardexref01_decode.j2 kj7 a0 a1 (Go.bits .and .i64 (wrap64 (bt a0 a1)) 31) 2 128) = some (r1, r2) := by rw [if_pos rfl] at H; exact H
       clear H
       have H := H1
       clear H1
       have H' := Aside0.mk H
       clear H
       exact lf17
      replace c10 := Bool.eq_false_iff.mpr c10
      subst c10
      have H1 : (if (wrap64 (bt a0 a1)) ≥ 224 then (cardexref01_decode.j1 kj7 a0 a1 (wrap64 (bt a0 a1)) (decide ((wrap64 (bt a0 a1)) < 240))) else (cardexref01_decode.j1 kj7 a0 a1 (wrap64 (bt a0 a1)) false)) = some (r1, r2) := by rw [if_neg (show ¬ (false = true) by decide)] at H; exact H
      clear H
      have H := H1
      clear H1
      have HC11 := Aside0.mk H
      clear H
      go_upto_region 7 with (fail)
      go_cut [26] (fun v26 wc => ∃ (kq : Nat) (x26_10 : Bool), v26 = .bool x26_10 ∧ Aside0 (cardexref01_decode.j1 kq a0 a1 (wrap64 (bt a0 a1)) x26_10 = some (r1, r2)) ∧ Aside0 (kq ≤ kj7) ∧ Drawn0 w wc)
      case first =>
       have H := HC11.out
       clear HC11
       by_cases c12 : (wrap64 (bt a0 a1)) ≥ 224
       ·rw [if_pos c12] at H
        have c12b0 := decide_eq_true c12
        clear c12
        (first | rw [c12b0] | (simp only [i64_w, i32_w]; rw [c12b0]) | skip)
        have H' := Aside0.mk H
        clear H
        exact lf17
       rw [if_neg c12] at H
       have c12b0 := decide_eq_false c12
       clear c12
       (first | rw [c12b0] | (simp only [i64_w, i32_w]; rw [c12b0]) | skip)
       have H' := Aside0.mk H
       clear H
       exact lf17
      case rest =>
       clear HC11
       try clear c1
       try clear p2
       try clear c3
       try clear c3b0
       try clear c4
       try clear c4b0
       try clear p5
       try clear q5
       try clear hx5
       try clear p6
       try clear c7
       try clear c7b0
       try clear c8
       try clear c9
       try clear c9b0
       try clear c10
       try clear c12
       try clear c12b0
       try clear p2
       try clear p5
       try clear p6
       try clear q5
       obtain ⟨kq, x26_10, rfl, HA, HJ10, ⟨mc10, rfl⟩⟩ := hcut
       cases kq with
       | zero => exact absurd HA.out (by simp [cardexref01_decode.j1])
       | succ kj10 =>
        have H := HA.out
        clear HA
        simp only [cardexref01_decode.j1] at H
        by_cases c13 : x26_10 = true
        ·subst c13
         have H1 : (cardexref01_decode.j2 kj10 a0 a1 (Go.bits .and .i64 (wrap64 (bt a0 a1)) 15) 3 2048) = some (r1, r2) := by rw [if_pos rfl] at H; exact H
         clear H
         have H := H1
         clear H1
         have H' := Aside0.mk H
         clear H
         exact lf17
        replace c13 := Bool.eq_false_iff.mpr c13
        subst c13
        have H1 : (if (wrap64 (bt a0 a1)) ≥ 240 then (if (wrap64 (bt a0 a1)) < 248 then (cardexref01_decode.j2 kj10 a0 a1 (Go.bits .and .i64 (wrap64 (bt a0 a1)) 7) 4 65536) else (some (0, 0))) else (some (0, 0))) = some (r1, r2) := by rw [if_neg (show ¬ (false = true) by decide)] at H; exact H
        clear H
        have H := H1
        clear H1
        by_cases c14 : (wrap64 (bt a0 a1)) ≥ 240
        ·rw [if_pos c14] at H
         have c14b0 := decide_eq_true c14
         clear c14
         by_cases c15 : (wrap64 (bt a0 a1)) < 248
         ·rw [if_pos c15] at H
          have c15b0 := decide_eq_true c15
          clear c15
          have H' := Aside0.mk H
          clear H
          exact lf17
         rw [if_neg c15] at H
         have c15b0 := decide_eq_false c15
         clear c15
         simp only [Option.some.injEq, Prod.mk.injEq] at H
         obtain ⟨rfl, rfl⟩ := H
         exact lf17
        rw [if_neg c14] at H
        have c14b0 := decide_eq_false c14
        clear c14
        simp only [Option.some.injEq, Prod.mk.injEq] at H
        obtain ⟨rfl, rfl⟩ := H
        exact lf17
   case rest =>
    clear HC6
    try clear c1
    try clear p2
    try clear c3
    try clear c3b0
    try clear c4
    try clear c4b0
    try clear p5
    try clear q5
    try clear hx5
    try clear p6
    try clear c7
    try clear c7b0
    try clear c8
    try clear c9
    try clear c9b0
    try clear c10
    try clear c12
    try clear c12b0
    try clear c13
    try clear c14
    try clear c14b0
    try clear c15
    try clear c15b0
    try clear p2
    try clear p5
    try clear p6
    try clear q5
    obtain ⟨kq, x6_5, x7_5, x8_5, rfl, rfl, rfl, HA, HJ5, ⟨mc5, rfl⟩⟩ := hcut
    cases kq with
    | zero => exact absurd HA.out (by simp [cardexref01_decode.j2])
    | succ kj5 =>
     have H := HA.out
     clear HA
     simp only [cardexref01_decode.j2] at H
     by_cases c16 : (wrap64 (a1 + x7_5)) > (a0.size : Int)
     ·rw [if_pos c16] at H
      have c16b0 := decide_eq_true c16
      clear c16
      simp only [Option.some.injEq, Prod.mk.injEq] at H
      obtain ⟨rfl, rfl⟩ := H
      exact lf17
     rw [if_neg c16] at H
     have c16b0 := decide_eq_false c16
     clear c16
     have H' := Aside0.mk H
     clear H
     go_wp2
     go_loopg [6, 9] kj5 (fun kq v6 v9 w' => ∃ (x6_2 : Int) (x9_2 : Int), v6 = .int .i64 x6_2 ∧ v9 = .int .i64 x9_2 ∧ Aside0 (cardexref01_decode.l0 kq a0 a1 x6_2 x7_5 x8_5 x9_2 = some (r1, r2)) ∧ Aside0 (kq ≤ kj5) ∧ Drawn0 w w')
     case atStart => exact ⟨(x6_5), (1), zz1, zz1, H', ⟨Nat.le_refl _⟩, zz17⟩
     case round =>
      clear H'
      try clear c1
      try clear p2
      try clear c3
      try clear c3b0
      try clear c4
      try clear c4b0
      try clear c5
      try clear p5
      try clear q5
      try clear hx5
      try clear p6
      try clear c7
      try clear c7b0
      try clear c8
      try clear c9
      try clear c9b0
      try clear c10
      try clear c12
      try clear c12b0
      try clear c13
      try clear c14
      try clear c14b0
      try clear c15
      try clear c15b0
      try clear c16
      try clear c16b0
      try clear p2
      try clear p5
      try clear p6
      try clear q5
      obtain ⟨x6_2, x9_2, rfl, rfl, HA, HK2, ⟨m2, rfl⟩⟩ := hrel
      cases gk with
      | zero => exact absurd HA.out (by simp [cardexref01_decode.l0])
      | succ k2 =>
       have H := HA.out
       clear HA
       simp only [cardexref01_decode.l0] at H
       by_cases c17 : x9_2 < x7_5
       ·rw [if_pos c17] at H
        have c17b0 := decide_eq_true c17
        clear c17
        obtain ⟨ji18, hji18⟩ : ∃ j_ : Int, (wrap64 (a1 + x9_2)) = j_ := ⟨_, rfl⟩
        replace H : (if 0 ≤ (ji18) then (if (ji18) < (a0.size : Int) then (if (Go.bits .and .u8 (bt a0 (ji18)) 192) = 128 then (cardexref01_decode.l0 k2 a0 a1 (Go.bits .or .i64 (wrap64 (x6_2 * 64)) (wrap64 (Go.bits .and .u8 (bt a0 (ji18)) 63))) x7_5 x8_5 (wrap64 (x9_2 + 1))) else (some (0, 0))) else (none)) else (none)) = some (r1, r2) := by first | (rw [hji18] at H; exact H) | (simp only [hji18] at H ⊢; exact H)
        have hji18w : (IntKind.i64.wrap (a1 + x9_2)) = ji18 := (i64_w _).trans hji18
        by_cases c19 : 0 ≤ (ji18)
        ·rw [if_pos c19] at H
         have c19b0 := decide_eq_true c19
         clear c19
         by_cases c20 : (ji18) < (a0.size : Int)
         ·rw [if_pos c20] at H
          have c20b0 := decide_eq_true c20
          clear c20
          by_cases c22 : (Go.bits .and .u8 (bt a0 (ji18)) 192) = 128
          ·rw [if_pos c22] at H
           obtain ⟨c22b0, c22b1⟩ := eqT c22
           clear c22
           have H' := Aside0.mk H
           clear H
           have p21 : 0 ≤ ((ji18) : Int) := of_decide_eq_true zz6
           have q21 : (ji18) < (a0.size : Int) := of_decide_eq_true zz6
           have hx21 := bt_at a0 (ji18)
           replace p21 := eq_true p21
           replace q21 := eq_true q21
           have p23 : 0 ≤ ((ji18) : Int) := of_decide_eq_true zz6
           have q23 : (ji18) < (a0.size : Int) := of_decide_eq_true zz6
           have hx23 := bt_at a0 (ji18)
           replace p23 := eq_true p23
           replace q23 := eq_true q23
           exact lf17
          rw [if_neg c22] at H
          obtain ⟨c22b0, c22b1⟩ := eqF c22
          simp only [Option.some.injEq, Prod.mk.injEq] at H
          obtain ⟨rfl, rfl⟩ := H
          have p21 : 0 ≤ ((ji18) : Int) := of_decide_eq_true zz6
          have q21 : (ji18) < (a0.size : Int) := of_decide_eq_true zz6
          have hx21 := bt_at a0 (ji18)
          replace p21 := eq_true p21
          replace q21 := eq_true q21
          exact lf17
         rw [if_neg c20] at H
         exact absurd H (by simp)
        rw [if_neg c19] at H
        exact absurd H (by simp)
       rw [if_neg c17] at H
       have c17b0 := decide_eq_false c17
       clear c17
       by_cases c24 : x6_2 < x8_5
       ·rw [if_pos c24] at H
        have c24b0 := decide_eq_true c24
        clear c24
        simp only [Option.some.injEq, Prod.mk.injEq] at H
        obtain ⟨rfl, rfl⟩ := H
        exact lf17
       rw [if_neg c24] at H
       have c24b0 := decide_eq_false c24
       clear c24
       by_cases c25 : x6_2 > 1114111
       ·rw [if_pos c25] at H
        have c25b0 := decide_eq_true c25
        clear c25
        simp only [Option.some.injEq, Prod.mk.injEq] at H
        obtain ⟨rfl, rfl⟩ := H
        exact lf17
       rw [if_neg c25] at H
       have c25b0 := decide_eq_false c25
       clear c25
       by_cases c26 : x6_2 ≥ 55296
       ·rw [if_pos c26] at H
        have c26b0 := decide_eq_true c26
        clear c26
        by_cases c27 : x6_2 ≤ 57343
        ·rw [if_pos c27] at H
         have c27b0 := decide_eq_true c27
         clear c27
         simp only [Option.some.injEq, Prod.mk.injEq] at H
         obtain ⟨rfl, rfl⟩ := H
         exact lf17
        rw [if_neg c27] at H
        have c27b0 := decide_eq_false c27
        clear c27
        simp only [Option.some.injEq, Prod.mk.injEq] at H
        obtain ⟨rfl, rfl⟩ := H
        exact lf17
       rw [if_neg c26] at H
       have c26b0 := decide_eq_false c26
       clear c26
       simp only [Option.some.injEq, Prod.mk.injEq] at H
       obtain ⟨rfl, rfl⟩ := H
       exact lf17
  rw [if_neg c4] at H
  exact absurd H (by simp)
 rw [if_neg c3] at H
 exact absurd H (by simp)
end Go.Proofs.YtaekklpphlcngaaGreatDoor.Q
