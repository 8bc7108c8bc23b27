-- Written by hookprint.py (wip/) of this session: the kit's print with hand-proved functions beside it. Not trusted: Lean checks it.
import Derived.Test.YtaekklpphlcngaaGreatDoorQ0
import Derived.Test.YtaekklpphlcngaaGreatDoorQ1
import Derived.Test.YtaekklpphlcngaaGreatDoorQ5
import Derived.Test.YtaekklpphlcngaaGreatDoorQ7
import Derived.Test.YtaekklpphlcngaaGreatDoorQ16
namespace Go.Proofs.YtaekklpphlcngaaGreatDoor.Q
open List (setIfInBounds_toArray set_cons_zero set_cons_succ)
open Go.RowKit Go.Lib Go.Proofs.YtaekklpphlcngaaGreatDoorX Go.Proofs.YtaekklpphlcngaaGreatDoorW.PrintWords Go.Proofs.YtaekklpphlcngaaGreatDoorW.PrintLast Go.Proofs.YtaekklpphlcngaaGreatDoorW.PrintMore
set_option linter.unusedVariables false
set_option linter.unusedSimpArgs false
mutual
def cardexlaw14_ItemNeeds.j0 : Nat → Int → Bool → ByteArray → ByteArray → List ByteArray → Int → Bool → Bool → Option (Bool)
 | 0, _, _, _, _, _, _, _, _ => none
 | k + 1, x1, x20, x497000, x497001, x497002, x497003, x497004, x497005 => if x20 = true then (some false) else (cardexlaw14_ItemNeeds.l0 k x1 (⟨#[]⟩ : ByteArray) 0 x497000 x497001 x497002 x497003 x497004 x497005)
def cardexlaw14_ItemNeeds.l0 : Nat → Int → ByteArray → Int → ByteArray → ByteArray → List ByteArray → Int → Bool → Bool → Option (Bool)
 | 0, _, _, _, _, _, _, _, _, _ => none
 | k + 1, x1, x5, x6, x497000, x497001, x497002, x497003, x497004, x497005 => if x6 ≤ 100 then (if x5.size + 2 ≤ 9223372036854775807 then (cardexlaw14_ItemNeeds.l0 k x1 (x5 ++ (⟨#[195, 169]⟩ : ByteArray)) (wrap64 (x6 + 1)) x497000 x497001 x497002 x497003 x497004 x497005) else (none)) else (if (Int.tmod (IntKind.u64.wrap (x1)) 9) = 0 then ((item_Right.f k (⟨#[]⟩ : ByteArray) x497001 x497002 x497003 x497004 x497005).bind fun t512 => (if t512 = true then (some false) else (some true))) else (if (Int.tmod (IntKind.u64.wrap (x1)) 9) = 1 then ((item_Right.f k (⟨#[65, 64, 98]⟩ : ByteArray) x497001 x497002 x497003 x497004 x497005).bind fun t513 => (if t513 = true then (some false) else (some true))) else (if (Int.tmod (IntKind.u64.wrap (x1)) 9) = 2 then ((item_Right.f k x497000 x5 x497002 x497003 x497004 x497005).bind fun t514 => (if t514 = true then (some false) else (some true))) else (if (Int.tmod (IntKind.u64.wrap (x1)) 9) = 3 then ((item_Right.f k x497000 (⟨#[97, 9, 98]⟩ : ByteArray) x497002 x497003 x497004 x497005).bind fun t515 => (if t515 = true then (some false) else (some true))) else (if (Int.tmod (IntKind.u64.wrap (x1)) 9) = 4 then ((item_Right.f k x497000 x497001 (([(⟨#[97]⟩ : ByteArray), (⟨#[97]⟩ : ByteArray)] : List ByteArray)) x497003 x497004 x497005).bind fun t519 => (if t519 = true then (some false) else (some true))) else (if (Int.tmod (IntKind.u64.wrap (x1)) 9) = 5 then ((item_Right.f k x497000 x497001 (([(⟨#[]⟩ : ByteArray)] : List ByteArray)) x497003 x497004 x497005).bind fun t523 => (if t523 = true then (some false) else (some true))) else (if (Int.tmod (IntKind.u64.wrap (x1)) 9) = 6 then ((item_Right.f k x497000 x497001 (([x5] : List ByteArray)) x497003 x497004 x497005).bind fun t527 => (if t527 = true then (some false) else (some true))) else (if (Int.tmod (IntKind.u64.wrap (x1)) 9) = 7 then ((item_Right.f k x497000 x497001 (([(⟨#[97]⟩ : ByteArray), (⟨#[98]⟩ : ByteArray), (⟨#[99]⟩ : ByteArray), (⟨#[100]⟩ : ByteArray), (⟨#[101]⟩ : ByteArray), (⟨#[102]⟩ : ByteArray), (⟨#[103]⟩ : ByteArray), (⟨#[104]⟩ : ByteArray), (⟨#[105]⟩ : ByteArray)] : List ByteArray)) x497003 x497004 x497005).bind fun t531 => (if t531 = true then (some false) else (some true))) else ((item_Right.f k x497000 x497001 x497002 4 x497004 x497005).bind fun t532 => (if t532 = true then (some false) else (some true)))))))))))
end
def cardexlaw14_ItemNeeds.f (k : Nat) (a0_0 : ByteArray) (a0_1 : ByteArray) (l0_2 : List ByteArray) (a0_3 : Int) (a0_4 : Bool) (a0_5 : Bool) (a1 : Int) : Option (Bool) := (cardexplay_SmallItems.f k (([(⟨a0_0, a0_1, l0_2, a0_3, a0_4, a0_5⟩ : S24)] : List (S24)))).bind fun t500 => (if t500 = true then ((cardexplay_Item.f k a0_0 a0_1 l0_2 a0_3 a0_4 a0_5 0).bind fun bt502 => ((cardexlaw14_awake.f k).bind fun t510 => (if t510 = true then ((item_Right.f k bt502.1 bt502.2.1 bt502.2.2.1 bt502.2.2.2.1 bt502.2.2.2.2.1 bt502.2.2.2.2.2).bind fun t511 => (cardexlaw14_ItemNeeds.j0 k a1 (!t511) bt502.1 bt502.2.1 bt502.2.2.1 bt502.2.2.2.1 bt502.2.2.2.2.1 bt502.2.2.2.2.2)) else (cardexlaw14_ItemNeeds.j0 k a1 true bt502.1 bt502.2.1 bt502.2.2.1 bt502.2.2.2.1 bt502.2.2.2.2.1 bt502.2.2.2.2.2)))) else ((cardexlaw14_awake.f k).bind fun t501 => (if t501 = true then (some true) else (some false))))
set_option maxRecDepth 100000 in
theorem lf31 {P : Prop} (h : P := by
 go_wp2_with (first | ((with_reducible refine gc 8 ?_); refine gL (some 62) Tryz.func8 #[.agg #[.string t502, .string t503, .slice Ao16 t504.length co16, .int .i64 4, .bool t508, .bool t509]] ?_; (with_reducible refine (item_Right.calls k2 t502 t503 _ _ t504 4 t508 t509 false _ ?side1 ?side2 A79.out (tabs_b HT.out zz4)).mono ?_); (case side1 => exact (by refine (Kd.R_reads' (e := 9) (base := w.heap.size) (ok := fun k_ => (w.heap.size ≤ k_)) (n := t504.length) (c := co16) ?_).2.2; exact (by (with_reducible repeat (first | apply Kd.R_alloc | apply Kd.R_drewN | apply Kd.R_drew)); exact (Kd.R_mono (Kd.R_far (p := ⟨gb496, 3, none⟩) (Kd.R_types HO_497002.out BK496.out (by decide)) (fun _ hk => hk.2) (.int .i64 4)) (fun _ h_ => h_.1))))); (case side2 => exact (Kd.R_reads' HO_497002.out).2.1); rintro e v0_ ⟨rfl, hb⟩; refine ⟨_, rfl, ?_⟩; have n_ := as3 (Kd.R_below (by (with_reducible repeat (first | apply Kd.R_alloc | apply Kd.R_drewN | apply Kd.R_drew)); exact (Kd.R_mono (Kd.R_far (p := ⟨gb496, 3, none⟩) (Kd.R_types HO_497002.out BK496.out (by decide)) (fun _ hk => hk.2) (.int .i64 4)) (fun _ h_ => h_.1))) hb) (blk_below (g := gb496) (o := .cells #[.string t502, .string t503, .slice Ao16 t504.length co16, .int .i64 4, .bool t508, .bool t509] 24 (0, 0)) (by (with_reducible repeat (first | refine blk_drewN ?_ _ | refine blk_drew ?_ | refine blk_alloc ?_ _)); refine blk_put (cs := #[.string t502, .string t503, .slice Ao16 t504.length co16, .int .i64 t507, .bool t508, .bool t509]) ?_ 3 _ rfl; (with_reducible repeat (first | refine blk_drewN ?_ _ | refine blk_drew ?_ | refine blk_alloc ?_ _)); exact BK496.out) hb) (below_step zz4 hb); clear HO_497002 BK496 HB; obtain ⟨HO_497002, BK496, HB⟩ := n_; (try clear hb)) | ((with_reducible refine gc 8 ?_); refine gL (some 62) Tryz.func8 #[.agg #[.string t502, .string x5_2, .slice Ao16 t504.length co16, .int .i64 t507, .bool t508, .bool t509]] ?_; (with_reducible refine (item_Right.calls k2 t502 x5_2 _ _ t504 t507 t508 t509 false _ ?side1 ?side2 A38.out (tabs_b HT.out zz4)).mono ?_); (case side1 => exact (by refine (Kd.R_reads' (e := 9) (base := w.heap.size) (ok := fun k_ => (w.heap.size ≤ k_)) (n := t504.length) (c := co16) ?_).2.2; exact (by (with_reducible repeat (first | apply Kd.R_alloc | apply Kd.R_drewN | apply Kd.R_drew)); exact (Kd.R_mono (Kd.R_far (p := ⟨gb496, 1, none⟩) (Kd.R_types HO_497002.out BK496.out (by decide)) (fun _ hk => hk.2) (.string x5_2)) (fun _ h_ => h_.1))))); (case side2 => exact (Kd.R_reads' HO_497002.out).2.1); rintro e v0_ ⟨rfl, hb⟩; refine ⟨_, rfl, ?_⟩; have n_ := as3 (Kd.R_below (by (with_reducible repeat (first | apply Kd.R_alloc | apply Kd.R_drewN | apply Kd.R_drew)); exact (Kd.R_mono (Kd.R_far (p := ⟨gb496, 1, none⟩) (Kd.R_types HO_497002.out BK496.out (by decide)) (fun _ hk => hk.2) (.string x5_2)) (fun _ h_ => h_.1))) hb) (blk_below (g := gb496) (o := .cells #[.string t502, .string x5_2, .slice Ao16 t504.length co16, .int .i64 t507, .bool t508, .bool t509] 24 (0, 0)) (by (with_reducible repeat (first | refine blk_drewN ?_ _ | refine blk_drew ?_ | refine blk_alloc ?_ _)); refine blk_put (cs := #[.string t502, .string t503, .slice Ao16 t504.length co16, .int .i64 t507, .bool t508, .bool t509]) ?_ 1 _ rfl; (with_reducible repeat (first | refine blk_drewN ?_ _ | refine blk_drew ?_ | refine blk_alloc ?_ _)); exact BK496.out) hb) (below_step zz4 hb); clear HO_497002 BK496 HB; obtain ⟨HO_497002, BK496, HB⟩ := n_; (try clear hb)) | ((with_reducible refine gc 8 ?_); refine gL (some 62) Tryz.func8 #[.agg #[.string (⟨#[]⟩ : ByteArray), .string t503, .slice Ao16 t504.length co16, .int .i64 t507, .bool t508, .bool t509]] ?_; (with_reducible refine (item_Right.calls k2 (⟨#[]⟩ : ByteArray) t503 _ _ t504 t507 t508 t509 false _ ?side1 ?side2 A28.out (tabs_b HT.out zz4)).mono ?_); (case side1 => exact (by refine (Kd.R_reads' (e := 9) (base := w.heap.size) (ok := fun k_ => (w.heap.size ≤ k_)) (n := t504.length) (c := co16) ?_).2.2; exact (by (with_reducible repeat (first | apply Kd.R_alloc | apply Kd.R_drewN | apply Kd.R_drew)); exact (Kd.R_mono (Kd.R_far (p := ⟨gb496, 0, none⟩) (Kd.R_types HO_497002.out BK496.out (by decide)) (fun _ hk => hk.2) (.string (⟨#[]⟩ : ByteArray))) (fun _ h_ => h_.1))))); (case side2 => exact (Kd.R_reads' HO_497002.out).2.1); rintro e v0_ ⟨rfl, hb⟩; refine ⟨_, rfl, ?_⟩; have n_ := as3 (Kd.R_below (by (with_reducible repeat (first | apply Kd.R_alloc | apply Kd.R_drewN | apply Kd.R_drew)); exact (Kd.R_mono (Kd.R_far (p := ⟨gb496, 0, none⟩) (Kd.R_types HO_497002.out BK496.out (by decide)) (fun _ hk => hk.2) (.string (⟨#[]⟩ : ByteArray))) (fun _ h_ => h_.1))) hb) (blk_below (g := gb496) (o := .cells #[.string (⟨#[]⟩ : ByteArray), .string t503, .slice Ao16 t504.length co16, .int .i64 t507, .bool t508, .bool t509] 24 (0, 0)) (by (with_reducible repeat (first | refine blk_drewN ?_ _ | refine blk_drew ?_ | refine blk_alloc ?_ _)); refine blk_put (cs := #[.string t502, .string t503, .slice Ao16 t504.length co16, .int .i64 t507, .bool t508, .bool t509]) ?_ 0 _ rfl; (with_reducible repeat (first | refine blk_drewN ?_ _ | refine blk_drew ?_ | refine blk_alloc ?_ _)); exact BK496.out) hb) (below_step zz4 hb); clear HO_497002 BK496 HB; obtain ⟨HO_497002, BK496, HB⟩ := n_; (try clear hb)) | ((with_reducible refine gc 8 ?_); refine gL (some 62) Tryz.func8 #[.agg #[.string t502, .string (⟨#[97, 9, 98]⟩ : ByteArray), .slice Ao16 t504.length co16, .int .i64 t507, .bool t508, .bool t509]] ?_; (with_reducible refine (item_Right.calls k2 t502 (⟨#[97, 9, 98]⟩ : ByteArray) _ _ t504 t507 t508 t509 false _ ?side1 ?side2 A43.out (tabs_b HT.out zz4)).mono ?_); (case side1 => exact (by refine (Kd.R_reads' (e := 9) (base := w.heap.size) (ok := fun k_ => (w.heap.size ≤ k_)) (n := t504.length) (c := co16) ?_).2.2; exact (by (with_reducible repeat (first | apply Kd.R_alloc | apply Kd.R_drewN | apply Kd.R_drew)); exact (Kd.R_mono (Kd.R_far (p := ⟨gb496, 1, none⟩) (Kd.R_types HO_497002.out BK496.out (by decide)) (fun _ hk => hk.2) (.string (⟨#[97, 9, 98]⟩ : ByteArray))) (fun _ h_ => h_.1))))); (case side2 => exact (Kd.R_reads' HO_497002.out).2.1); rintro e v0_ ⟨rfl, hb⟩; refine ⟨_, rfl, ?_⟩; have n_ := as3 (Kd.R_below (by (with_reducible repeat (first | apply Kd.R_alloc | apply Kd.R_drewN | apply Kd.R_drew)); exact (Kd.R_mono (Kd.R_far (p := ⟨gb496, 1, none⟩) (Kd.R_types HO_497002.out BK496.out (by decide)) (fun _ hk => hk.2) (.string (⟨#[97, 9, 98]⟩ : ByteArray))) (fun _ h_ => h_.1))) hb) (blk_below (g := gb496) (o := .cells #[.string t502, .string (⟨#[97, 9, 98]⟩ : ByteArray), .slice Ao16 t504.length co16, .int .i64 t507, .bool t508, .bool t509] 24 (0, 0)) (by (with_reducible repeat (first | refine blk_drewN ?_ _ | refine blk_drew ?_ | refine blk_alloc ?_ _)); refine blk_put (cs := #[.string t502, .string t503, .slice Ao16 t504.length co16, .int .i64 t507, .bool t508, .bool t509]) ?_ 1 _ rfl; (with_reducible repeat (first | refine blk_drewN ?_ _ | refine blk_drew ?_ | refine blk_alloc ?_ _)); exact BK496.out) hb) (below_step zz4 hb); clear HO_497002 BK496 HB; obtain ⟨HO_497002, BK496, HB⟩ := n_; (try clear hb)) | ((with_reducible refine gc 8 ?_); refine gL (some 62) Tryz.func8 #[.agg #[.string (⟨#[65, 64, 98]⟩ : ByteArray), .string t503, .slice Ao16 t504.length co16, .int .i64 t507, .bool t508, .bool t509]] ?_; (with_reducible refine (item_Right.calls k2 (⟨#[65, 64, 98]⟩ : ByteArray) t503 _ _ t504 t507 t508 t509 false _ ?side1 ?side2 A33.out (tabs_b HT.out zz4)).mono ?_); (case side1 => exact (by refine (Kd.R_reads' (e := 9) (base := w.heap.size) (ok := fun k_ => (w.heap.size ≤ k_)) (n := t504.length) (c := co16) ?_).2.2; exact (by (with_reducible repeat (first | apply Kd.R_alloc | apply Kd.R_drewN | apply Kd.R_drew)); exact (Kd.R_mono (Kd.R_far (p := ⟨gb496, 0, none⟩) (Kd.R_types HO_497002.out BK496.out (by decide)) (fun _ hk => hk.2) (.string (⟨#[65, 64, 98]⟩ : ByteArray))) (fun _ h_ => h_.1))))); (case side2 => exact (Kd.R_reads' HO_497002.out).2.1); rintro e v0_ ⟨rfl, hb⟩; refine ⟨_, rfl, ?_⟩; have n_ := as3 (Kd.R_below (by (with_reducible repeat (first | apply Kd.R_alloc | apply Kd.R_drewN | apply Kd.R_drew)); exact (Kd.R_mono (Kd.R_far (p := ⟨gb496, 0, none⟩) (Kd.R_types HO_497002.out BK496.out (by decide)) (fun _ hk => hk.2) (.string (⟨#[65, 64, 98]⟩ : ByteArray))) (fun _ h_ => h_.1))) hb) (blk_below (g := gb496) (o := .cells #[.string (⟨#[65, 64, 98]⟩ : ByteArray), .string t503, .slice Ao16 t504.length co16, .int .i64 t507, .bool t508, .bool t509] 24 (0, 0)) (by (with_reducible repeat (first | refine blk_drewN ?_ _ | refine blk_drew ?_ | refine blk_alloc ?_ _)); refine blk_put (cs := #[.string t502, .string t503, .slice Ao16 t504.length co16, .int .i64 t507, .bool t508, .bool t509]) ?_ 0 _ rfl; (with_reducible repeat (first | refine blk_drewN ?_ _ | refine blk_drew ?_ | refine blk_alloc ?_ _)); exact BK496.out) hb) (below_step zz4 hb); clear HO_497002 BK496 HB; obtain ⟨HO_497002, BK496, HB⟩ := n_; (try clear hb)) | ((with_reducible refine gc 6 ?_); refine gL (some 14) Tryz.func6 #[] ?_; (with_reducible refine (cardexlaw14_awake.calls k  false _ A17.out (tabs_b HT.out zz4)).mono ?_); rintro e v0_ ⟨rfl, hb⟩; refine ⟨_, rfl, ?_⟩; have n_ := as5 (Kd.V_below (by (with_reducible repeat (first | apply Kd.V_alloc | apply Kd.V_drewN | apply Kd.V_drew)); exact (Kd.V_mono (Kd.V_far (p := ⟨gb496, 5, none⟩) (Kd.V_far (p := ⟨gb496, 4, none⟩) (Kd.V_far (p := ⟨gb496, 3, none⟩) (Kd.V_far (p := ⟨gb496, 2, none⟩) (Kd.V_far (p := ⟨gb496, 1, none⟩) (Kd.V_far (p := ⟨gb496, 0, none⟩) (Kd.V_mono HO0_2.out (fun k_ hk => (⟨hk, hk.1.1.2⟩ : _ ∧ k_ ≠ gb496))) (fun _ hk => hk.2) (.string t502)) (fun _ hk => hk.2) (.string t503)) (fun _ hk => hk.2) (.slice Ao16 t504.length co16)) (fun _ hk => hk.2) (.int .i64 t507)) (fun _ hk => hk.2) (.bool t508)) (fun _ hk => hk.2) (.bool t509)) (fun _ h_ => h_.1))) hb) (Kd.N_below (by (with_reducible repeat (first | apply Kd.N_alloc | apply Kd.N_drewN | apply Kd.N_drew)); exact (Kd.N_mono (Kd.N_far (p := ⟨gb496, 5, none⟩) (Kd.N_far (p := ⟨gb496, 4, none⟩) (Kd.N_far (p := ⟨gb496, 3, none⟩) (Kd.N_far (p := ⟨gb496, 2, none⟩) (Kd.N_far (p := ⟨gb496, 1, none⟩) (Kd.N_far (p := ⟨gb496, 0, none⟩) (Kd.N_mono HO499.out (fun k_ hk => (⟨hk, hk.1.2⟩ : _ ∧ k_ ≠ gb496))) (fun _ hk => hk.2) (.string t502)) (fun _ hk => hk.2) (.string t503)) (fun _ hk => hk.2) (.slice Ao16 t504.length co16)) (fun _ hk => hk.2) (.int .i64 t507)) (fun _ hk => hk.2) (.bool t508)) (fun _ hk => hk.2) (.bool t509)) (fun _ h_ => h_.1))) hb) (Kd.R_below (by (with_reducible repeat (first | apply Kd.R_alloc | apply Kd.R_drewN | apply Kd.R_drew)); exact (Kd.R_mono (Kd.R_far (p := ⟨gb496, 5, none⟩) (Kd.R_far (p := ⟨gb496, 4, none⟩) (Kd.R_far (p := ⟨gb496, 3, none⟩) (Kd.R_far (p := ⟨gb496, 2, none⟩) (Kd.R_far (p := ⟨gb496, 1, none⟩) (Kd.R_far (p := ⟨gb496, 0, none⟩) (Kd.R_types HO506.out BK496.out (by decide)) (fun _ hk => hk.2) (.string t502)) (fun _ hk => hk.2) (.string t503)) (fun _ hk => hk.2) (.slice Ao16 t504.length co16)) (fun _ hk => hk.2) (.int .i64 t507)) (fun _ hk => hk.2) (.bool t508)) (fun _ hk => hk.2) (.bool t509)) (fun _ h_ => h_.1))) hb) (blk_below (g := gb496) (o := .cells #[.string t502, .string t503, .slice Ao16 t504.length co16, .int .i64 t507, .bool t508, .bool t509] 24 (0, 0)) (by (with_reducible repeat (first | refine blk_drewN ?_ _ | refine blk_drew ?_ | refine blk_alloc ?_ _)); refine blk_put (cs := #[.string t502, .string t503, .slice Ao16 t504.length co16, .int .i64 t507, .bool t508, .bool a0_5]) ?_ 5 _ rfl; (with_reducible repeat (first | refine blk_drewN ?_ _ | refine blk_drew ?_ | refine blk_alloc ?_ _)); refine blk_put (cs := #[.string t502, .string t503, .slice Ao16 t504.length co16, .int .i64 t507, .bool a0_4, .bool a0_5]) ?_ 4 _ rfl; (with_reducible repeat (first | refine blk_drewN ?_ _ | refine blk_drew ?_ | refine blk_alloc ?_ _)); refine blk_put (cs := #[.string t502, .string t503, .slice Ao16 t504.length co16, .int .i64 a0_3, .bool a0_4, .bool a0_5]) ?_ 3 _ rfl; (with_reducible repeat (first | refine blk_drewN ?_ _ | refine blk_drew ?_ | refine blk_alloc ?_ _)); refine blk_put (cs := #[.string t502, .string t503, .slice A0_2 l0_2.length c0_2, .int .i64 a0_3, .bool a0_4, .bool a0_5]) ?_ 2 _ rfl; (with_reducible repeat (first | refine blk_drewN ?_ _ | refine blk_drew ?_ | refine blk_alloc ?_ _)); refine blk_put (cs := #[.string t502, .string a0_1, .slice A0_2 l0_2.length c0_2, .int .i64 a0_3, .bool a0_4, .bool a0_5]) ?_ 1 _ rfl; (with_reducible repeat (first | refine blk_drewN ?_ _ | refine blk_drew ?_ | refine blk_alloc ?_ _)); refine blk_put (cs := #[.string a0_0, .string a0_1, .slice A0_2 l0_2.length c0_2, .int .i64 a0_3, .bool a0_4, .bool a0_5]) ?_ 0 _ rfl; (with_reducible repeat (first | refine blk_drewN ?_ _ | refine blk_drew ?_ | refine blk_alloc ?_ _)); exact BK496.out) hb) (below_step zz4 hb); clear HO0_2 HO499 HO506 BK496 HB; obtain ⟨HO0_2, HO499, HO506, BK496, HB⟩ := n_; (try clear hb)) | ((with_reducible refine gate_dst (N := 55) rfl ?_); refine Kd.R_lit Kd.string _ 9 ?hg (N := 55) ?hd (xs := ([x5_2] : List ByteArray)) (inner := [.string x5_2]) (ok := fun _ => True) (okp := fun _ => True) ?hr ?hp (fun _ hk => hk) trivial (Below.refl _ _) (Nat.le_refl _) (by simp) ?_; (case hd => rfl); (case hg => rfl); (case hr => exact zz19); (case hp => exact (Reps.one (show Kd.M Kd.string _ _ _ x5_2 [.string x5_2] from rfl) (Reps.none _ _))); intro v525 v0_ ho67 hb hg_ hnew_; clear hg_ hnew_; (first | rw [← Ny524.out] at ho67 | (simp only [Int.reduceToNat] at ho67; rw [← Ny524.out] at ho67)); have n_ := as4 (Kd.R_elder' zz33 (Kd.R_base ho67) hb) (Kd.R_lower (Kd.R_new' (Kd.R_newM (M := fun k_ => (w.heap.size ≤ k_)) ho67 (below_size zz4) (fun k_ h_ => h_)) (Kd.R_lt zz33)) (below_size zz4)) (blk_below zz16 hb) (below_step zz4 hb); clear HO_497002 BK496 HB; obtain ⟨HO_497002, HO526, BK496, HB⟩ := n_; clear hb ho67; obtain ⟨Ao68, co68, eo68⟩ := Kd.R_slice HO526.out; subst eo68; obtain ⟨hcz496_0, hcz496_1, hcz496_2, hcz496_3, hcz496_4, hcz496_5⟩ := cz6 BK496.out; obtain ⟨hfz496_0, hfz496_1, hfz496_2, hfz496_3, hfz496_4, hfz496_5⟩ := fz6 BK496.out) | ((with_reducible refine gc 8 ?_); refine gL (some 62) Tryz.func8 #[.agg #[.string t502, .string t503, .slice Ao68 y524.length co68, .int .i64 t507, .bool t508, .bool t509]] ?_; (with_reducible refine (item_Right.calls k2 t502 t503 _ _ y524 t507 t508 t509 false _ ?side1 ?side2 A64.out (tabs_b HT.out zz4)).mono ?_); (case side1 => exact (by refine (Kd.R_reads' (e := 9) (base := w.heap.size) (ok := fun k_ => (((w.heap.size ≤ k_) ∧ True) ∧ some k_ ≠ (.slice Ao16 t504.length co16 : Value).ownBlock)) (n := y524.length) (c := co68) ?_).2.2; exact (by (with_reducible repeat (first | apply Kd.R_alloc | apply Kd.R_drewN | apply Kd.R_drew)); exact (Kd.R_mono (Kd.R_far (p := ⟨gb496, 2, none⟩) (Kd.R_types HO526.out BK496.out (by decide)) (fun _ hk => hk.2) (.slice Ao68 y524.length co68)) (fun _ h_ => h_.1))))); (case side2 => exact (Kd.R_reads' HO526.out).2.1); rintro e v1_ ⟨rfl, hb⟩; refine ⟨_, rfl, ?_⟩; have n_ := as4 (Kd.R_below (by (with_reducible repeat (first | apply Kd.R_alloc | apply Kd.R_drewN | apply Kd.R_drew)); exact (Kd.R_mono (Kd.R_far (p := ⟨gb496, 2, none⟩) (Kd.R_types HO_497002.out BK496.out (by decide)) (fun _ hk => hk.2) (.slice Ao68 y524.length co68)) (fun _ h_ => h_.1))) hb) (Kd.R_below (by (with_reducible repeat (first | apply Kd.R_alloc | apply Kd.R_drewN | apply Kd.R_drew)); exact (Kd.R_mono (Kd.R_far (p := ⟨gb496, 2, none⟩) (Kd.R_types HO526.out BK496.out (by decide)) (fun _ hk => hk.2) (.slice Ao68 y524.length co68)) (fun _ h_ => h_.1))) hb) (blk_below (g := gb496) (o := .cells #[.string t502, .string t503, .slice Ao68 y524.length co68, .int .i64 t507, .bool t508, .bool t509] 24 (0, 0)) zz28 hb) (below_step zz4 hb); clear HO_497002 HO526 BK496 HB; obtain ⟨HO_497002, HO526, BK496, HB⟩ := n_; (try clear hb)) | ((with_reducible refine gate_dst (N := 50) rfl ?_); refine Kd.R_lit Kd.string _ 9 ?hg (N := 50) ?hd (xs := ([(⟨#[]⟩ : ByteArray)] : List ByteArray)) (inner := [.string (⟨#[]⟩ : ByteArray)]) (ok := fun _ => True) (okp := fun _ => True) ?hr ?hp (fun _ hk => hk) trivial (Below.refl _ _) (Nat.le_refl _) (by simp) ?_; (case hd => rfl); (case hg => rfl); (case hr => exact zz19); (case hp => exact (Reps.one (show Kd.M Kd.string _ _ _ (⟨#[]⟩ : ByteArray) [.string (⟨#[]⟩ : ByteArray)] from rfl) (Reps.none _ _))); intro v521 v0_ ho59 hb hg_ hnew_; clear hg_ hnew_; (first | rw [← Ny520.out] at ho59 | (simp only [Int.reduceToNat] at ho59; rw [← Ny520.out] at ho59)); have n_ := as4 (Kd.R_elder' zz33 (Kd.R_base ho59) hb) (Kd.R_lower (Kd.R_new' (Kd.R_newM (M := fun k_ => (w.heap.size ≤ k_)) ho59 (below_size zz4) (fun k_ h_ => h_)) (Kd.R_lt zz33)) (below_size zz4)) (blk_below zz16 hb) (below_step zz4 hb); clear HO_497002 BK496 HB; obtain ⟨HO_497002, HO522, BK496, HB⟩ := n_; clear hb ho59; obtain ⟨Ao60, co60, eo60⟩ := Kd.R_slice HO522.out; subst eo60; obtain ⟨hcz496_0, hcz496_1, hcz496_2, hcz496_3, hcz496_4, hcz496_5⟩ := cz6 BK496.out; obtain ⟨hfz496_0, hfz496_1, hfz496_2, hfz496_3, hfz496_4, hfz496_5⟩ := fz6 BK496.out) | ((with_reducible refine gc 8 ?_); refine gL (some 62) Tryz.func8 #[.agg #[.string t502, .string t503, .slice Ao60 y520.length co60, .int .i64 t507, .bool t508, .bool t509]] ?_; (with_reducible refine (item_Right.calls k2 t502 t503 _ _ y520 t507 t508 t509 false _ ?side1 ?side2 A56.out (tabs_b HT.out zz4)).mono ?_); (case side1 => exact (by refine (Kd.R_reads' (e := 9) (base := w.heap.size) (ok := fun k_ => (((w.heap.size ≤ k_) ∧ True) ∧ some k_ ≠ (.slice Ao16 t504.length co16 : Value).ownBlock)) (n := y520.length) (c := co60) ?_).2.2; exact (by (with_reducible repeat (first | apply Kd.R_alloc | apply Kd.R_drewN | apply Kd.R_drew)); exact (Kd.R_mono (Kd.R_far (p := ⟨gb496, 2, none⟩) (Kd.R_types HO522.out BK496.out (by decide)) (fun _ hk => hk.2) (.slice Ao60 y520.length co60)) (fun _ h_ => h_.1))))); (case side2 => exact (Kd.R_reads' HO522.out).2.1); rintro e v1_ ⟨rfl, hb⟩; refine ⟨_, rfl, ?_⟩; have n_ := as4 (Kd.R_below (by (with_reducible repeat (first | apply Kd.R_alloc | apply Kd.R_drewN | apply Kd.R_drew)); exact (Kd.R_mono (Kd.R_far (p := ⟨gb496, 2, none⟩) (Kd.R_types HO_497002.out BK496.out (by decide)) (fun _ hk => hk.2) (.slice Ao60 y520.length co60)) (fun _ h_ => h_.1))) hb) (Kd.R_below (by (with_reducible repeat (first | apply Kd.R_alloc | apply Kd.R_drewN | apply Kd.R_drew)); exact (Kd.R_mono (Kd.R_far (p := ⟨gb496, 2, none⟩) (Kd.R_types HO522.out BK496.out (by decide)) (fun _ hk => hk.2) (.slice Ao60 y520.length co60)) (fun _ h_ => h_.1))) hb) (blk_below (g := gb496) (o := .cells #[.string t502, .string t503, .slice Ao60 y520.length co60, .int .i64 t507, .bool t508, .bool t509] 24 (0, 0)) zz28 hb) (below_step zz4 hb); clear HO_497002 HO522 BK496 HB; obtain ⟨HO_497002, HO522, BK496, HB⟩ := n_; (try clear hb)) | ((with_reducible refine gate_dst (N := 46) rfl ?_); refine Kd.R_lit Kd.string _ 9 ?hg (N := 46) ?hd (xs := ([(⟨#[97]⟩ : ByteArray), (⟨#[97]⟩ : ByteArray)] : List ByteArray)) (inner := [.string (⟨#[97]⟩ : ByteArray), .string (⟨#[97]⟩ : ByteArray)]) (ok := fun _ => True) (okp := fun _ => True) ?hr ?hp (fun _ hk => hk) trivial (Below.refl _ _) (Nat.le_refl _) (by simp) ?_; (case hd => rfl); (case hg => rfl); (case hr => exact zz19); (case hp => exact (Reps.one (show Kd.M Kd.string _ _ _ (⟨#[97]⟩ : ByteArray) [.string (⟨#[97]⟩ : ByteArray)] from rfl) (Reps.one (show Kd.M Kd.string _ _ _ (⟨#[97]⟩ : ByteArray) [.string (⟨#[97]⟩ : ByteArray)] from rfl) (Reps.none _ _)))); intro v517 v0_ ho51 hb hg_ hnew_; clear hg_ hnew_; (first | rw [← Ny516.out] at ho51 | (simp only [Int.reduceToNat] at ho51; rw [← Ny516.out] at ho51)); have n_ := as4 (Kd.R_elder' zz33 (Kd.R_base ho51) hb) (Kd.R_lower (Kd.R_new' (Kd.R_newM (M := fun k_ => (w.heap.size ≤ k_)) ho51 (below_size zz4) (fun k_ h_ => h_)) (Kd.R_lt zz33)) (below_size zz4)) (blk_below zz16 hb) (below_step zz4 hb); clear HO_497002 BK496 HB; obtain ⟨HO_497002, HO518, BK496, HB⟩ := n_; clear hb ho51; obtain ⟨Ao52, co52, eo52⟩ := Kd.R_slice HO518.out; subst eo52; obtain ⟨hcz496_0, hcz496_1, hcz496_2, hcz496_3, hcz496_4, hcz496_5⟩ := cz6 BK496.out; obtain ⟨hfz496_0, hfz496_1, hfz496_2, hfz496_3, hfz496_4, hfz496_5⟩ := fz6 BK496.out) | ((with_reducible refine gc 8 ?_); refine gL (some 62) Tryz.func8 #[.agg #[.string t502, .string t503, .slice Ao52 y516.length co52, .int .i64 t507, .bool t508, .bool t509]] ?_; (with_reducible refine (item_Right.calls k2 t502 t503 _ _ y516 t507 t508 t509 false _ ?side1 ?side2 A48.out (tabs_b HT.out zz4)).mono ?_); (case side1 => exact (by refine (Kd.R_reads' (e := 9) (base := w.heap.size) (ok := fun k_ => (((w.heap.size ≤ k_) ∧ True) ∧ some k_ ≠ (.slice Ao16 t504.length co16 : Value).ownBlock)) (n := y516.length) (c := co52) ?_).2.2; exact (by (with_reducible repeat (first | apply Kd.R_alloc | apply Kd.R_drewN | apply Kd.R_drew)); exact (Kd.R_mono (Kd.R_far (p := ⟨gb496, 2, none⟩) (Kd.R_types HO518.out BK496.out (by decide)) (fun _ hk => hk.2) (.slice Ao52 y516.length co52)) (fun _ h_ => h_.1))))); (case side2 => exact (Kd.R_reads' HO518.out).2.1); rintro e v1_ ⟨rfl, hb⟩; refine ⟨_, rfl, ?_⟩; have n_ := as4 (Kd.R_below (by (with_reducible repeat (first | apply Kd.R_alloc | apply Kd.R_drewN | apply Kd.R_drew)); exact (Kd.R_mono (Kd.R_far (p := ⟨gb496, 2, none⟩) (Kd.R_types HO_497002.out BK496.out (by decide)) (fun _ hk => hk.2) (.slice Ao52 y516.length co52)) (fun _ h_ => h_.1))) hb) (Kd.R_below (by (with_reducible repeat (first | apply Kd.R_alloc | apply Kd.R_drewN | apply Kd.R_drew)); exact (Kd.R_mono (Kd.R_far (p := ⟨gb496, 2, none⟩) (Kd.R_types HO518.out BK496.out (by decide)) (fun _ hk => hk.2) (.slice Ao52 y516.length co52)) (fun _ h_ => h_.1))) hb) (blk_below (g := gb496) (o := .cells #[.string t502, .string t503, .slice Ao52 y516.length co52, .int .i64 t507, .bool t508, .bool t509] 24 (0, 0)) zz28 hb) (below_step zz4 hb); clear HO_497002 HO518 BK496 HB; obtain ⟨HO_497002, HO518, BK496, HB⟩ := n_; (try clear hb)) | ((with_reducible refine gate_dst (N := 59) rfl ?_); refine Kd.R_lit Kd.string _ 9 ?hg (N := 59) ?hd (xs := ([(⟨#[97]⟩ : ByteArray), (⟨#[98]⟩ : ByteArray), (⟨#[99]⟩ : ByteArray), (⟨#[100]⟩ : ByteArray), (⟨#[101]⟩ : ByteArray), (⟨#[102]⟩ : ByteArray), (⟨#[103]⟩ : ByteArray), (⟨#[104]⟩ : ByteArray), (⟨#[105]⟩ : ByteArray)] : List ByteArray)) (inner := [.string (⟨#[97]⟩ : ByteArray), .string (⟨#[98]⟩ : ByteArray), .string (⟨#[99]⟩ : ByteArray), .string (⟨#[100]⟩ : ByteArray), .string (⟨#[101]⟩ : ByteArray), .string (⟨#[102]⟩ : ByteArray), .string (⟨#[103]⟩ : ByteArray), .string (⟨#[104]⟩ : ByteArray), .string (⟨#[105]⟩ : ByteArray)]) (ok := fun _ => True) (okp := fun _ => True) ?hr ?hp (fun _ hk => hk) trivial (Below.refl _ _) (Nat.le_refl _) (by simp) ?_; (case hd => rfl); (case hg => rfl); (case hr => exact zz19); (case hp => exact (Reps.one (show Kd.M Kd.string _ _ _ (⟨#[97]⟩ : ByteArray) [.string (⟨#[97]⟩ : ByteArray)] from rfl) (Reps.one (show Kd.M Kd.string _ _ _ (⟨#[98]⟩ : ByteArray) [.string (⟨#[98]⟩ : ByteArray)] from rfl) (Reps.one (show Kd.M Kd.string _ _ _ (⟨#[99]⟩ : ByteArray) [.string (⟨#[99]⟩ : ByteArray)] from rfl) (Reps.one (show Kd.M Kd.string _ _ _ (⟨#[100]⟩ : ByteArray) [.string (⟨#[100]⟩ : ByteArray)] from rfl) (Reps.one (show Kd.M Kd.string _ _ _ (⟨#[101]⟩ : ByteArray) [.string (⟨#[101]⟩ : ByteArray)] from rfl) (Reps.one (show Kd.M Kd.string _ _ _ (⟨#[102]⟩ : ByteArray) [.string (⟨#[102]⟩ : ByteArray)] from rfl) (Reps.one (show Kd.M Kd.string _ _ _ (⟨#[103]⟩ : ByteArray) [.string (⟨#[103]⟩ : ByteArray)] from rfl) (Reps.one (show Kd.M Kd.string _ _ _ (⟨#[104]⟩ : ByteArray) [.string (⟨#[104]⟩ : ByteArray)] from rfl) (Reps.one (show Kd.M Kd.string _ _ _ (⟨#[105]⟩ : ByteArray) [.string (⟨#[105]⟩ : ByteArray)] from rfl) (Reps.none _ _))))))))))); intro v529 v0_ ho75 hb hg_ hnew_; clear hg_ hnew_; (first | rw [← Ny528.out] at ho75 | (simp only [Int.reduceToNat] at ho75; rw [← Ny528.out] at ho75)); have n_ := as4 (Kd.R_elder' zz33 (Kd.R_base ho75) hb) (Kd.R_lower (Kd.R_new' (Kd.R_newM (M := fun k_ => (w.heap.size ≤ k_)) ho75 (below_size zz4) (fun k_ h_ => h_)) (Kd.R_lt zz33)) (below_size zz4)) (blk_below zz16 hb) (below_step zz4 hb); clear HO_497002 BK496 HB; obtain ⟨HO_497002, HO530, BK496, HB⟩ := n_; clear hb ho75; obtain ⟨Ao76, co76, eo76⟩ := Kd.R_slice HO530.out; subst eo76; obtain ⟨hcz496_0, hcz496_1, hcz496_2, hcz496_3, hcz496_4, hcz496_5⟩ := cz6 BK496.out; obtain ⟨hfz496_0, hfz496_1, hfz496_2, hfz496_3, hfz496_4, hfz496_5⟩ := fz6 BK496.out) | ((with_reducible refine gc 8 ?_); refine gL (some 62) Tryz.func8 #[.agg #[.string t502, .string t503, .slice Ao76 y528.length co76, .int .i64 t507, .bool t508, .bool t509]] ?_; (with_reducible refine (item_Right.calls k2 t502 t503 _ _ y528 t507 t508 t509 false _ ?side1 ?side2 A72.out (tabs_b HT.out zz4)).mono ?_); (case side1 => exact (by refine (Kd.R_reads' (e := 9) (base := w.heap.size) (ok := fun k_ => (((w.heap.size ≤ k_) ∧ True) ∧ some k_ ≠ (.slice Ao16 t504.length co16 : Value).ownBlock)) (n := y528.length) (c := co76) ?_).2.2; exact (by (with_reducible repeat (first | apply Kd.R_alloc | apply Kd.R_drewN | apply Kd.R_drew)); exact (Kd.R_mono (Kd.R_far (p := ⟨gb496, 2, none⟩) (Kd.R_types HO530.out BK496.out (by decide)) (fun _ hk => hk.2) (.slice Ao76 y528.length co76)) (fun _ h_ => h_.1))))); (case side2 => exact (Kd.R_reads' HO530.out).2.1); rintro e v1_ ⟨rfl, hb⟩; refine ⟨_, rfl, ?_⟩; have n_ := as4 (Kd.R_below (by (with_reducible repeat (first | apply Kd.R_alloc | apply Kd.R_drewN | apply Kd.R_drew)); exact (Kd.R_mono (Kd.R_far (p := ⟨gb496, 2, none⟩) (Kd.R_types HO_497002.out BK496.out (by decide)) (fun _ hk => hk.2) (.slice Ao76 y528.length co76)) (fun _ h_ => h_.1))) hb) (Kd.R_below (by (with_reducible repeat (first | apply Kd.R_alloc | apply Kd.R_drewN | apply Kd.R_drew)); exact (Kd.R_mono (Kd.R_far (p := ⟨gb496, 2, none⟩) (Kd.R_types HO530.out BK496.out (by decide)) (fun _ hk => hk.2) (.slice Ao76 y528.length co76)) (fun _ h_ => h_.1))) hb) (blk_below (g := gb496) (o := .cells #[.string t502, .string t503, .slice Ao76 y528.length co76, .int .i64 t507, .bool t508, .bool t509] 24 (0, 0)) zz28 hb) (below_step zz4 hb); clear HO_497002 HO530 BK496 HB; obtain ⟨HO_497002, HO530, BK496, HB⟩ := n_; (try clear hb)) | ((with_reducible refine gc 6 ?_); refine gL (some 14) Tryz.func6 #[] ?_; (with_reducible refine (cardexlaw14_awake.calls k  true _ A17.out (tabs_b HT.out zz4)).mono ?_); rintro e v0_ ⟨rfl, hb⟩; refine ⟨_, rfl, ?_⟩; have n_ := as5 (Kd.V_below (by (with_reducible repeat (first | apply Kd.V_alloc | apply Kd.V_drewN | apply Kd.V_drew)); exact (Kd.V_mono (Kd.V_far (p := ⟨gb496, 5, none⟩) (Kd.V_far (p := ⟨gb496, 4, none⟩) (Kd.V_far (p := ⟨gb496, 3, none⟩) (Kd.V_far (p := ⟨gb496, 2, none⟩) (Kd.V_far (p := ⟨gb496, 1, none⟩) (Kd.V_far (p := ⟨gb496, 0, none⟩) (Kd.V_mono HO0_2.out (fun k_ hk => (⟨hk, hk.1.1.2⟩ : _ ∧ k_ ≠ gb496))) (fun _ hk => hk.2) (.string t502)) (fun _ hk => hk.2) (.string t503)) (fun _ hk => hk.2) (.slice Ao16 t504.length co16)) (fun _ hk => hk.2) (.int .i64 t507)) (fun _ hk => hk.2) (.bool t508)) (fun _ hk => hk.2) (.bool t509)) (fun _ h_ => h_.1))) hb) (Kd.N_below (by (with_reducible repeat (first | apply Kd.N_alloc | apply Kd.N_drewN | apply Kd.N_drew)); exact (Kd.N_mono (Kd.N_far (p := ⟨gb496, 5, none⟩) (Kd.N_far (p := ⟨gb496, 4, none⟩) (Kd.N_far (p := ⟨gb496, 3, none⟩) (Kd.N_far (p := ⟨gb496, 2, none⟩) (Kd.N_far (p := ⟨gb496, 1, none⟩) (Kd.N_far (p := ⟨gb496, 0, none⟩) (Kd.N_mono HO499.out (fun k_ hk => (⟨hk, hk.1.2⟩ : _ ∧ k_ ≠ gb496))) (fun _ hk => hk.2) (.string t502)) (fun _ hk => hk.2) (.string t503)) (fun _ hk => hk.2) (.slice Ao16 t504.length co16)) (fun _ hk => hk.2) (.int .i64 t507)) (fun _ hk => hk.2) (.bool t508)) (fun _ hk => hk.2) (.bool t509)) (fun _ h_ => h_.1))) hb) (Kd.R_below (by (with_reducible repeat (first | apply Kd.R_alloc | apply Kd.R_drewN | apply Kd.R_drew)); exact (Kd.R_mono (Kd.R_far (p := ⟨gb496, 5, none⟩) (Kd.R_far (p := ⟨gb496, 4, none⟩) (Kd.R_far (p := ⟨gb496, 3, none⟩) (Kd.R_far (p := ⟨gb496, 2, none⟩) (Kd.R_far (p := ⟨gb496, 1, none⟩) (Kd.R_far (p := ⟨gb496, 0, none⟩) (Kd.R_types HO506.out BK496.out (by decide)) (fun _ hk => hk.2) (.string t502)) (fun _ hk => hk.2) (.string t503)) (fun _ hk => hk.2) (.slice Ao16 t504.length co16)) (fun _ hk => hk.2) (.int .i64 t507)) (fun _ hk => hk.2) (.bool t508)) (fun _ hk => hk.2) (.bool t509)) (fun _ h_ => h_.1))) hb) (blk_below (g := gb496) (o := .cells #[.string t502, .string t503, .slice Ao16 t504.length co16, .int .i64 t507, .bool t508, .bool t509] 24 (0, 0)) (by (with_reducible repeat (first | refine blk_drewN ?_ _ | refine blk_drew ?_ | refine blk_alloc ?_ _)); refine blk_put (cs := #[.string t502, .string t503, .slice Ao16 t504.length co16, .int .i64 t507, .bool t508, .bool a0_5]) ?_ 5 _ rfl; (with_reducible repeat (first | refine blk_drewN ?_ _ | refine blk_drew ?_ | refine blk_alloc ?_ _)); refine blk_put (cs := #[.string t502, .string t503, .slice Ao16 t504.length co16, .int .i64 t507, .bool a0_4, .bool a0_5]) ?_ 4 _ rfl; (with_reducible repeat (first | refine blk_drewN ?_ _ | refine blk_drew ?_ | refine blk_alloc ?_ _)); refine blk_put (cs := #[.string t502, .string t503, .slice Ao16 t504.length co16, .int .i64 a0_3, .bool a0_4, .bool a0_5]) ?_ 3 _ rfl; (with_reducible repeat (first | refine blk_drewN ?_ _ | refine blk_drew ?_ | refine blk_alloc ?_ _)); refine blk_put (cs := #[.string t502, .string t503, .slice A0_2 l0_2.length c0_2, .int .i64 a0_3, .bool a0_4, .bool a0_5]) ?_ 2 _ rfl; (with_reducible repeat (first | refine blk_drewN ?_ _ | refine blk_drew ?_ | refine blk_alloc ?_ _)); refine blk_put (cs := #[.string t502, .string a0_1, .slice A0_2 l0_2.length c0_2, .int .i64 a0_3, .bool a0_4, .bool a0_5]) ?_ 1 _ rfl; (with_reducible repeat (first | refine blk_drewN ?_ _ | refine blk_drew ?_ | refine blk_alloc ?_ _)); refine blk_put (cs := #[.string a0_0, .string a0_1, .slice A0_2 l0_2.length c0_2, .int .i64 a0_3, .bool a0_4, .bool a0_5]) ?_ 0 _ rfl; (with_reducible repeat (first | refine blk_drewN ?_ _ | refine blk_drew ?_ | refine blk_alloc ?_ _)); exact BK496.out) hb) (below_step zz4 hb); clear HO0_2 HO499 HO506 BK496 HB; obtain ⟨HO0_2, HO499, HO506, BK496, HB⟩ := n_; (try clear hb); obtain ⟨hcz496_0, hcz496_1, hcz496_2, hcz496_3, hcz496_4, hcz496_5⟩ := cz6 BK496.out; obtain ⟨hfz496_0, hfz496_1, hfz496_2, hfz496_3, hfz496_4, hfz496_5⟩ := fz6 BK496.out) | (go_at_call 8; (with_reducible refine (item_Right.calls k t502 t503 _ _ t504 t507 t508 t509 t511 _ ?side1 ?side2 A19.out (tabs_b HT.out zz4)).mono ?_); (case side1 => exact (by repeat (first | exact (Kd.R_reads' HO506.out).2.2 | (with_reducible refine Kd.C_alloc ?_ _) | (with_reducible refine Kd.C_drewN ?_ _) | (with_reducible refine Kd.C_drew ?_)))); (case side2 => exact (Kd.R_reads' HO506.out).2.1); rintro e v1_ ⟨rfl, hb⟩; have n_ := as5 (Kd.V_below zz36 hb) (Kd.N_below zz51 hb) (Kd.R_below (by (with_reducible repeat (first | apply Kd.R_alloc | apply Kd.R_drewN | apply Kd.R_drew)); exact HO506.out) hb) (blk_below zz16 hb) (below_step zz4 hb); clear HO0_2 HO499 HO506 BK496 HB; obtain ⟨HO0_2, HO499, HO506, BK496, HB⟩ := n_; (try clear hb)))
 first
  | (go_meet; (case rel => exact ⟨_, (!t511), zz1, H', ⟨zz47⟩, ⟨by (with_reducible repeat (first | apply Kd.R_alloc | apply Kd.R_drewN | apply Kd.R_drew)); exact Kd.R_mono HO506.out (fun _ hk => hk.1)⟩, ⟨zz16⟩, ⟨zz4⟩⟩))
  | (go_meet; (case rel => exact ⟨_, (true), zz1, H', ⟨zz47⟩, ⟨by (with_reducible repeat (first | apply Kd.R_alloc | apply Kd.R_drewN | apply Kd.R_drew)); exact Kd.R_mono HO506.out (fun _ hk => hk.1)⟩, ⟨zz16⟩, ⟨zz4⟩⟩))
  | (go_roundg k2; (case measure => have := HJ5.out; have := HK2.out; omega); (case rel => exact ⟨(x5_2 ++ (⟨#[195, 169]⟩ : ByteArray)), (wrap64 (x6_2 + 1)), zz1, zz1, H', ⟨by have := HJ5.out; have := HK2.out; omega⟩, ⟨zz33⟩, ⟨zz16⟩, ⟨zz4⟩⟩))
  | (go_ret; exact ⟨zz3, zz4⟩)) : P := h
set_option maxHeartbeats 8000000 in
set_option maxRecDepth 100000 in
theorem cardexlaw14_ItemNeeds.calls (k : Nat) (a0_0 : ByteArray) (a0_1 : ByteArray) (P0_2_ : Nat → Prop) (A0_2 : Option Addr) (c0_2 : Nat) (l0_2 : List ByteArray) (a0_3 : Int) (a0_4 : Bool) (a0_5 : Bool) (a1 : Int) (r : Bool) (w : World) (hs0_2 : Kd.V Kd.string 9 w w.heap.size (fun k_ => P0_2_ k_) (.slice A0_2 l0_2.length c0_2) l0_2) (h : cardexlaw14_ItemNeeds.f k a0_0 a0_1 l0_2 a0_3 a0_4 a0_5 a1 = some r) (hT : Tabs w) (hlaw : r = true) :
  Calls Tryz.prog 4 #[.agg #[.string a0_0, .string a0_1, .slice A0_2 l0_2.length c0_2, .int .i64 a0_3, .bool a0_4, .bool a0_5], .int .i64 a1] w fun e w' => e = .returned (.bool r) ∧ Below w.heap.size w w' := by
 have hu24 := Tryz.underlying24
 have HT := Aside0.mk hT
 clear hT
 have HLAW := Aside0.mk hlaw
 clear hlaw
 have HO0_2 := Aside0.mk (show Kd.V Kd.string 9 w w.heap.size (fun k_ => (P0_2_ k_ ∨ w.heap.size ≤ k_)) (.slice A0_2 l0_2.length c0_2) l0_2 from Kd.V_mono hs0_2 (fun k_ hk => .inl hk))
 have HB := Aside0.mk (Below.refl w.heap.size w)
 have H : ((cardexplay_SmallItems.f k (([(⟨a0_0, a0_1, l0_2, a0_3, a0_4, a0_5⟩ : S24)] : List (S24)))).bind fun t500 => (if t500 = true then ((cardexplay_Item.f k a0_0 a0_1 l0_2 a0_3 a0_4 a0_5 0).bind fun bt502 => ((cardexlaw14_awake.f k).bind fun t510 => (if t510 = true then ((item_Right.f k bt502.1 bt502.2.1 bt502.2.2.1 bt502.2.2.2.1 bt502.2.2.2.2.1 bt502.2.2.2.2.2).bind fun t511 => (cardexlaw14_ItemNeeds.j0 k a1 (!t511) bt502.1 bt502.2.1 bt502.2.2.1 bt502.2.2.2.1 bt502.2.2.2.2.1 bt502.2.2.2.2.2)) else (cardexlaw14_ItemNeeds.j0 k a1 true bt502.1 bt502.2.1 bt502.2.2.1 bt502.2.2.2.1 bt502.2.2.2.2.1 bt502.2.2.2.2.2)))) else ((cardexlaw14_awake.f k).bind fun t501 => (if t501 = true then (some true) else (some false))))) = some r := h
 clear h
 obtain ⟨y497, hy497⟩ : ∃ y_ : List (S24), y_ = (([(⟨a0_0, a0_1, l0_2, a0_3, a0_4, a0_5⟩ : S24)] : List (S24))) := ⟨_, rfl⟩
 replace H : ((cardexplay_SmallItems.f k y497).bind fun t500 => (if t500 = true then ((cardexplay_Item.f k a0_0 a0_1 l0_2 a0_3 a0_4 a0_5 0).bind fun bt502 => ((cardexlaw14_awake.f k).bind fun t510 => (if t510 = true then ((item_Right.f k bt502.1 bt502.2.1 bt502.2.2.1 bt502.2.2.2.1 bt502.2.2.2.2.1 bt502.2.2.2.2.2).bind fun t511 => (cardexlaw14_ItemNeeds.j0 k a1 (!t511) bt502.1 bt502.2.1 bt502.2.2.1 bt502.2.2.2.1 bt502.2.2.2.2.1 bt502.2.2.2.2.2)) else (cardexlaw14_ItemNeeds.j0 k a1 true bt502.1 bt502.2.1 bt502.2.2.1 bt502.2.2.2.1 bt502.2.2.2.2.1 bt502.2.2.2.2.2)))) else ((cardexlaw14_awake.f k).bind fun t501 => (if t501 = true then (some true) else (some false))))) = some r := by first | (rw [hy497]; with_reducible exact H) | (have H2_ := (Option.bind_some _ _).symm.trans H; rw [hy497]; with_reducible exact H2_) | (have H2_ := (Option.bind_some _ _).symm.trans H; with_reducible exact H2_) | with_reducible exact H | (rw [hy497]; exact H) | exact H
 have Ny497 := Aside0.mk hy497
 clear hy497
 replace H := Option.bind_eq_some_iff.mp H
 obtain ⟨t500, A30, H⟩ := H
 try dsimp only at H
 have A3 := Aside0.mk A30
 clear A30
 by_cases c4 : t500 = true
 ·subst c4
  have H1 : ((cardexplay_Item.f k a0_0 a0_1 l0_2 a0_3 a0_4 a0_5 0).bind fun bt502 => ((cardexlaw14_awake.f k).bind fun t510 => (if t510 = true then ((item_Right.f k bt502.1 bt502.2.1 bt502.2.2.1 bt502.2.2.2.1 bt502.2.2.2.2.1 bt502.2.2.2.2.2).bind fun t511 => (cardexlaw14_ItemNeeds.j0 k a1 (!t511) bt502.1 bt502.2.1 bt502.2.2.1 bt502.2.2.2.1 bt502.2.2.2.2.1 bt502.2.2.2.2.2)) else (cardexlaw14_ItemNeeds.j0 k a1 true bt502.1 bt502.2.1 bt502.2.2.1 bt502.2.2.2.1 bt502.2.2.2.2.1 bt502.2.2.2.2.2)))) = some r := by rw [if_pos rfl] at H; exact H
  clear H
  have H := H1
  clear H1
  replace H := Option.bind_eq_some_iff.mp H
  obtain ⟨⟨t502, t503, t504, t507, t508, t509⟩, A50, H⟩ := H
  try dsimp only at H
  have A5 := Aside0.mk A50
  clear A50
  have HC6 := Aside0.mk H
  clear H
  go_enter Tryz.func4, Tryz.ntmps4
  go_upto_region 4 with (first | ((with_reducible refine gd 2 ?_); refine bz #[.string a0_0, .string a0_1, .slice A0_2 l0_2.length c0_2, .int .i64 a0_3, .bool a0_4, .bool a0_5] 24 ?_; intro gb496 hg w7 hbox hb; have n_ := as5 (Kd.V_below (Kd.V_elderB zz36 gb496 (Nat.le_of_eq hg.symm)) hb) (below_step zz0 hb) hbox (gs w hg zz0) (gs w hg zz0); clear HO0_2 HB; obtain ⟨HO0_2, HB, BK496, GW496, GE496⟩ := n_; clear hb hbox hg; obtain ⟨hcz8_0, hcz8_1, hcz8_2, hcz8_3, hcz8_4, hcz8_5⟩ := cz6 BK496.out; obtain ⟨hfz8_0, hfz8_1, hfz8_2, hfz8_3, hfz8_4, hfz8_5⟩ := fz6 BK496.out) | ((with_reducible refine gate_dst (N := 8) rfl ?_); refine Kd.N_lit k24 _ 24 ?hg (N' := 8) ?hd (xs := ([(⟨a0_0, a0_1, l0_2, a0_3, a0_4, a0_5⟩ : S24)] : List (S24))) (inner := [.string a0_0, .string a0_1, .slice A0_2 l0_2.length c0_2, .int .i64 a0_3, .bool a0_4, .bool a0_5]) (ok := (fun k_ => (P0_2_ k_ ∨ w.heap.size ≤ k_) ∧ k_ ≠ gb496)) (okp := (fun k_ => (P0_2_ k_ ∨ w.heap.size ≤ k_) ∧ k_ ≠ gb496)) ?hr ?hp (fun _ hk => hk) ((show ∀ k_, w7.heap.size ≤ k_ → (fun k_ => (P0_2_ k_ ∨ w.heap.size ≤ k_) ∧ k_ ≠ gb496) k_ from fun k_ hk => ⟨(.inr (Nat.le_trans (below_size zz4) hk)), Kd.freshB (g := gb496) (o := .cells #[.string a0_0, .string a0_1, .slice A0_2 l0_2.length c0_2, .int .i64 a0_3, .bool a0_4, .bool a0_5] 24 (0, 0)) zz16 k_ hk⟩) _ (Nat.le_refl _)) (Below.refl _ _) (Nat.le_refl _) (by simp) ?_; (case hd => rfl); (case hg => rfl); (case hr => exact zz19); (case hp => exact (Reps.c6 (show Kd.FK k24 _ _ (⟨a0_0, a0_1, l0_2, a0_3, a0_4, a0_5⟩ : S24) [.string a0_0, .string a0_1, .slice A0_2 l0_2.length c0_2, .int .i64 a0_3, .bool a0_4, .bool a0_5] from (k24_mkF _ _ (⟨a0_0, a0_1, l0_2, a0_3, a0_4, a0_5⟩ : S24) (Kd.V_reads' (Kd.V_mono (ok' := (fun k_ => (P0_2_ k_ ∨ w.heap.size ≤ k_) ∧ k_ ≠ gb496)) (HO0_2.out) (fun k_ hk => ⟨hk.1, hk.2⟩))).2.1 (Kd.V_F (Kd.V_mono (ok' := (fun k_ => (P0_2_ k_ ∨ w.heap.size ≤ k_) ∧ k_ ≠ gb496)) (HO0_2.out) (fun k_ hk => ⟨hk.1, hk.2⟩))))) (Reps.none _ _))); intro v498 w9 ho10 hb hg_ hnew_; clear hg_ hnew_; (first | rw [← Ny497.out] at ho10 | (simp only [Int.reduceToNat] at ho10; rw [← Ny497.out] at ho10)); have n_ := as4 (Kd.V_elder' zz36 (Kd.N_base ho10) hb) (Kd.N_lower ho10 (below_size zz4)) (blk_below zz16 hb) (below_step zz4 hb); clear HO0_2 BK496 HB; obtain ⟨HO0_2, HO499, BK496, HB⟩ := n_; clear hb ho10; obtain ⟨Ao11, co11, eo11⟩ := Kd.N_slice HO499.out; subst eo11) | ((with_reducible refine gc 5 ?_); refine gL (some 9) Tryz.func5 #[.slice Ao11 y497.length co11] ?_; (with_reducible refine (cardexplay_SmallItems.calls k (fun k_ => ((P0_2_ k_ ∨ w.heap.size ≤ k_) ∧ k_ ≠ gb496)) _ _ y497 true _ ?side1 A3.out).mono ?_); (case side1 => exact Kd.N_V (HO499.out)); rintro e w12 ⟨rfl, hb⟩; refine ⟨_, rfl, ?_⟩; have n_ := as4 (Kd.V_below zz36 hb) (Kd.N_below zz51 hb) (blk_below zz16 hb) (below_step zz4 hb); clear HO0_2 HO499 BK496 HB; obtain ⟨HO0_2, HO499, BK496, HB⟩ := n_; (try clear hb); obtain ⟨hcz13_0, hcz13_1, hcz13_2, hcz13_3, hcz13_4, hcz13_5⟩ := cz6 BK496.out; obtain ⟨hfz13_0, hfz13_1, hfz13_2, hfz13_3, hfz13_4, hfz13_5⟩ := fz6 BK496.out) | ((with_reducible refine gc 7 ?_); refine gL (some 13) Tryz.func7 #[.agg #[.string a0_0, .string a0_1, .slice A0_2 l0_2.length c0_2, .int .i64 a0_3, .bool a0_4, .bool a0_5], .int .i64 0] ?_; (with_reducible refine (cardexplay_Item.calls k a0_0 a0_1 _ _ l0_2 a0_3 a0_4 a0_5 0 t502 t503 t504 t507 t508 t509 _ ?side1 ?side2 A5.out).mono ?_); (case side1 => exact (by repeat (first | exact (Kd.V_reads' HO0_2.out).2.2 | (with_reducible refine Kd.C_alloc ?_ _) | (with_reducible refine Kd.C_drewN ?_ _) | (with_reducible refine Kd.C_drew ?_)))); (case side2 => exact (Kd.V_reads' HO0_2.out).2.1); rintro e w14 ⟨v505, rfl, ho0, hb⟩; refine ⟨_, rfl, ?_⟩; have n_ := as5 (Kd.V_elder' zz36 (Kd.R_base ho0) hb) (Kd.N_elder' zz51 (Kd.R_base ho0) hb) (Kd.R_lower (Kd.R_newM (M := fun k_ => (w.heap.size ≤ k_)) ho0 (below_size zz4) (fun k_ h_ => h_)) (below_size zz4)) (blk_below zz16 hb) (below_step zz4 hb); clear HO0_2 HO499 BK496 HB; obtain ⟨HO0_2, HO499, HO506, BK496, HB⟩ := n_; (try clear hb ho0); obtain ⟨hcz15_0, hcz15_1, hcz15_2, hcz15_3, hcz15_4, hcz15_5⟩ := cz6 BK496.out; obtain ⟨hfz15_0, hfz15_1, hfz15_2, hfz15_3, hfz15_4, hfz15_5⟩ := fz6 BK496.out; obtain ⟨Ao16, co16, eo16⟩ := Kd.R_slice HO506.out; subst eo16))
  (try simp only [Act.put, setIfInBounds_toArray, set_cons_zero, set_cons_succ])
  go_cut [20] (fun v20 wc => ∃ (kq : Nat) (x20_5 : Bool), v20 = .bool x20_5 ∧ Aside0 (cardexlaw14_ItemNeeds.j0 kq a1 x20_5 t502 t503 t504 t507 t508 t509 = some r) ∧ Aside0 (kq ≤ k) ∧ Aside0 (Kd.R Kd.string 9 wc w.heap.size (fun k_ => (w.heap.size ≤ k_)) (.slice Ao16 t504.length co16) t504) ∧ Aside0 (wc.heap[gb496]? = some (.cells #[.string t502, .string t503, (.slice Ao16 t504.length co16), .int .i64 t507, .bool t508, .bool t509] 24 (0, 0))) ∧ Aside0 (Below w.heap.size w wc))
  case first =>
   have H := HC6.out
   clear HC6
   replace H := Option.bind_eq_some_iff.mp H
   obtain ⟨t510, A170, H⟩ := H
   try dsimp only at H
   have A17 := Aside0.mk A170
   clear A170
   by_cases c18 : t510 = true
   ·subst c18
    have H1 : ((item_Right.f k t502 t503 t504 t507 t508 t509).bind fun t511 => (cardexlaw14_ItemNeeds.j0 k a1 (!t511) t502 t503 t504 t507 t508 t509)) = some r := by rw [if_pos rfl] at H; exact H
    clear H
    have H := H1
    clear H1
    replace H := Option.bind_eq_some_iff.mp H
    obtain ⟨t511, A190, H⟩ := H
    try dsimp only at H
    have A19 := Aside0.mk A190
    clear A190
    have H' := Aside0.mk H
    clear H
    exact lf31
   replace c18 := Bool.eq_false_iff.mpr c18
   subst c18
   have H1 : (cardexlaw14_ItemNeeds.j0 k a1 true t502 t503 t504 t507 t508 t509) = some r := by rw [if_neg (show ¬ (false = true) by decide)] at H; exact H
   clear H
   have H := H1
   clear H1
   have H' := Aside0.mk H
   clear H
   exact lf31
  case rest =>
   clear HC6
   try clear c1
   try clear p2
   try clear c4
   try clear c5
   try clear c6
   try clear c7
   try clear c18
   try clear hcz13_0
   try clear hcz13_1
   try clear hcz13_2
   try clear hcz13_3
   try clear hcz13_4
   try clear hcz13_5
   try clear hcz15_0
   try clear hcz15_1
   try clear hcz15_2
   try clear hcz15_3
   try clear hcz15_4
   try clear hcz15_5
   try clear hcz21_0
   try clear hcz21_1
   try clear hcz21_2
   try clear hcz21_3
   try clear hcz21_4
   try clear hcz21_5
   try clear hcz8_0
   try clear hcz8_1
   try clear hcz8_2
   try clear hcz8_3
   try clear hcz8_4
   try clear hcz8_5
   try clear hfz13_0
   try clear hfz13_1
   try clear hfz13_2
   try clear hfz13_3
   try clear hfz13_4
   try clear hfz13_5
   try clear hfz15_0
   try clear hfz15_1
   try clear hfz15_2
   try clear hfz15_3
   try clear hfz15_4
   try clear hfz15_5
   try clear hfz21_0
   try clear hfz21_1
   try clear hfz21_2
   try clear hfz21_3
   try clear hfz21_4
   try clear hfz21_5
   try clear hfz8_0
   try clear hfz8_1
   try clear hfz8_2
   try clear hfz8_3
   try clear hfz8_4
   try clear hfz8_5
   obtain ⟨kq, x20_5, rfl, HA, HJ5, HO_497002, BK496, HB⟩ := hcut
   cases kq with
   | zero => exact absurd HA.out (by simp [cardexlaw14_ItemNeeds.j0])
   | succ kj5 =>
    have H := HA.out
    clear HA
    simp only [cardexlaw14_ItemNeeds.j0] at H
    by_cases c24 : x20_5 = true
    ·subst c24
     have H1 : (some false) = some r := by rw [if_pos rfl] at H; exact H
     clear H
     have H := H1
     clear H1
     exact absurd ((Option.some.inj H).trans HLAW.out) (by decide)
    replace c24 := Bool.eq_false_iff.mpr c24
    subst c24
    have H1 : (cardexlaw14_ItemNeeds.l0 kj5 a1 (⟨#[]⟩ : ByteArray) 0 t502 t503 t504 t507 t508 t509) = some r := by rw [if_neg (show ¬ (false = true) by decide)] at H; exact H
    clear H
    have H := H1
    clear H1
    have H' := Aside0.mk H
    clear H
    go_wp2
    go_loopg [5, 6] kj5 (fun kq v5 v6 w' => ∃ (x5_2 : ByteArray) (x6_2 : Int), v5 = .string x5_2 ∧ v6 = .int .i64 x6_2 ∧ Aside0 (cardexlaw14_ItemNeeds.l0 kq a1 x5_2 x6_2 t502 t503 t504 t507 t508 t509 = some r) ∧ Aside0 (kq ≤ kj5) ∧ Aside0 (Kd.R Kd.string 9 w' w.heap.size (fun k_ => (w.heap.size ≤ k_)) (.slice Ao16 t504.length co16) t504) ∧ Aside0 (w'.heap[gb496]? = some (.cells #[.string t502, .string t503, (.slice Ao16 t504.length co16), .int .i64 t507, .bool t508, .bool t509] 24 (0, 0))) ∧ Aside0 (Below w.heap.size w w'))
    case atStart => exact ⟨((⟨#[]⟩ : ByteArray)), (0), zz1, zz1, H', ⟨Nat.le_refl _⟩, ⟨zz33⟩, ⟨zz16⟩, ⟨zz4⟩⟩
    case round =>
     clear H'
     try clear c1
     try clear c2
     try clear p2
     try clear c4
     try clear c5
     try clear c6
     try clear c7
     try clear c18
     try clear c24
     try clear hcz13_0
     try clear hcz13_1
     try clear hcz13_2
     try clear hcz13_3
     try clear hcz13_4
     try clear hcz13_5
     try clear hcz15_0
     try clear hcz15_1
     try clear hcz15_2
     try clear hcz15_3
     try clear hcz15_4
     try clear hcz15_5
     try clear hcz21_0
     try clear hcz21_1
     try clear hcz21_2
     try clear hcz21_3
     try clear hcz21_4
     try clear hcz21_5
     try clear hcz8_0
     try clear hcz8_1
     try clear hcz8_2
     try clear hcz8_3
     try clear hcz8_4
     try clear hcz8_5
     try clear hfz13_0
     try clear hfz13_1
     try clear hfz13_2
     try clear hfz13_3
     try clear hfz13_4
     try clear hfz13_5
     try clear hfz15_0
     try clear hfz15_1
     try clear hfz15_2
     try clear hfz15_3
     try clear hfz15_4
     try clear hfz15_5
     try clear hfz21_0
     try clear hfz21_1
     try clear hfz21_2
     try clear hfz21_3
     try clear hfz21_4
     try clear hfz21_5
     try clear hfz8_0
     try clear hfz8_1
     try clear hfz8_2
     try clear hfz8_3
     try clear hfz8_4
     try clear hfz8_5
     try clear p2
     obtain ⟨x5_2, x6_2, rfl, rfl, HA, HK2, HO_497002, BK496, HB⟩ := hrel
     cases gk with
     | zero => exact absurd HA.out (by simp [cardexlaw14_ItemNeeds.l0])
     | succ k2 =>
      have H := HA.out
      clear HA
      simp only [cardexlaw14_ItemNeeds.l0] at H
      by_cases c25 : x6_2 ≤ 100
      ·rw [if_pos c25] at H
       have c25b0 := decide_eq_true c25
       clear c25
       by_cases c26 : x5_2.size + 2 ≤ 9223372036854775807
       ·rw [if_pos c26] at H
        have c26b0 := eq_true c26
        have c26b1 : decide (x5_2.size + 2 ≤ 9223372036854775807) = true := decide_eq_true c26
        try have c26b2 : (9223372036854775807 < x5_2.size + 2) = False := eq_false (Nat.not_lt.2 c26)
        have H' := Aside0.mk H
        clear H
        exact lf31
       rw [if_neg c26] at H
       exact absurd H (by simp)
      rw [if_neg c25] at H
      have c25b0 := decide_eq_false c25
      clear c25
      by_cases c27 : (Int.tmod (IntKind.u64.wrap (a1)) 9) = 0
      ·rw [if_pos c27] at H
       obtain ⟨c27b0, c27b1⟩ := eqT c27
       clear c27
       replace H := Option.bind_eq_some_iff.mp H
       obtain ⟨t512, A280, H⟩ := H
       try dsimp only at H
       have A28 := Aside0.mk A280
       clear A280
       by_cases c29 : t512 = true
       ·subst c29
        have H1 : (some false) = some r := by rw [if_pos rfl] at H; exact H
        clear H
        have H := H1
        clear H1
        exact absurd ((Option.some.inj H).trans HLAW.out) (by decide)
       replace c29 := Bool.eq_false_iff.mpr c29
       subst c29
       have H1 : (some true) = some r := by rw [if_neg (show ¬ (false = true) by decide)] at H; exact H
       clear H
       have H := H1
       clear H1
       obtain rfl := Option.some.inj H
       obtain ⟨hcz30_0, hcz30_1, hcz30_2, hcz30_3, hcz30_4, hcz30_5⟩ := cz6 BK496.out
       obtain ⟨hfz30_0, hfz30_1, hfz30_2, hfz30_3, hfz30_4, hfz30_5⟩ := fz6 BK496.out
       exact lf31
      rw [if_neg c27] at H
      obtain ⟨c27b0, c27b1⟩ := eqF c27
      by_cases c32 : (Int.tmod (IntKind.u64.wrap (a1)) 9) = 1
      ·rw [if_pos c32] at H
       obtain ⟨c32b0, c32b1⟩ := eqT c32
       clear c32
       replace H := Option.bind_eq_some_iff.mp H
       obtain ⟨t513, A330, H⟩ := H
       try dsimp only at H
       have A33 := Aside0.mk A330
       clear A330
       by_cases c34 : t513 = true
       ·subst c34
        have H1 : (some false) = some r := by rw [if_pos rfl] at H; exact H
        clear H
        have H := H1
        clear H1
        exact absurd ((Option.some.inj H).trans HLAW.out) (by decide)
       replace c34 := Bool.eq_false_iff.mpr c34
       subst c34
       have H1 : (some true) = some r := by rw [if_neg (show ¬ (false = true) by decide)] at H; exact H
       clear H
       have H := H1
       clear H1
       obtain rfl := Option.some.inj H
       obtain ⟨hcz35_0, hcz35_1, hcz35_2, hcz35_3, hcz35_4, hcz35_5⟩ := cz6 BK496.out
       obtain ⟨hfz35_0, hfz35_1, hfz35_2, hfz35_3, hfz35_4, hfz35_5⟩ := fz6 BK496.out
       exact lf31
      rw [if_neg c32] at H
      obtain ⟨c32b0, c32b1⟩ := eqF c32
      by_cases c37 : (Int.tmod (IntKind.u64.wrap (a1)) 9) = 2
      ·rw [if_pos c37] at H
       obtain ⟨c37b0, c37b1⟩ := eqT c37
       clear c37
       replace H := Option.bind_eq_some_iff.mp H
       obtain ⟨t514, A380, H⟩ := H
       try dsimp only at H
       have A38 := Aside0.mk A380
       clear A380
       by_cases c39 : t514 = true
       ·subst c39
        have H1 : (some false) = some r := by rw [if_pos rfl] at H; exact H
        clear H
        have H := H1
        clear H1
        exact absurd ((Option.some.inj H).trans HLAW.out) (by decide)
       replace c39 := Bool.eq_false_iff.mpr c39
       subst c39
       have H1 : (some true) = some r := by rw [if_neg (show ¬ (false = true) by decide)] at H; exact H
       clear H
       have H := H1
       clear H1
       obtain rfl := Option.some.inj H
       obtain ⟨hcz40_0, hcz40_1, hcz40_2, hcz40_3, hcz40_4, hcz40_5⟩ := cz6 BK496.out
       obtain ⟨hfz40_0, hfz40_1, hfz40_2, hfz40_3, hfz40_4, hfz40_5⟩ := fz6 BK496.out
       exact lf31
      rw [if_neg c37] at H
      obtain ⟨c37b0, c37b1⟩ := eqF c37
      by_cases c42 : (Int.tmod (IntKind.u64.wrap (a1)) 9) = 3
      ·rw [if_pos c42] at H
       obtain ⟨c42b0, c42b1⟩ := eqT c42
       clear c42
       replace H := Option.bind_eq_some_iff.mp H
       obtain ⟨t515, A430, H⟩ := H
       try dsimp only at H
       have A43 := Aside0.mk A430
       clear A430
       by_cases c44 : t515 = true
       ·subst c44
        have H1 : (some false) = some r := by rw [if_pos rfl] at H; exact H
        clear H
        have H := H1
        clear H1
        exact absurd ((Option.some.inj H).trans HLAW.out) (by decide)
       replace c44 := Bool.eq_false_iff.mpr c44
       subst c44
       have H1 : (some true) = some r := by rw [if_neg (show ¬ (false = true) by decide)] at H; exact H
       clear H
       have H := H1
       clear H1
       obtain rfl := Option.some.inj H
       obtain ⟨hcz45_0, hcz45_1, hcz45_2, hcz45_3, hcz45_4, hcz45_5⟩ := cz6 BK496.out
       obtain ⟨hfz45_0, hfz45_1, hfz45_2, hfz45_3, hfz45_4, hfz45_5⟩ := fz6 BK496.out
       exact lf31
      rw [if_neg c42] at H
      obtain ⟨c42b0, c42b1⟩ := eqF c42
      by_cases c47 : (Int.tmod (IntKind.u64.wrap (a1)) 9) = 4
      ·rw [if_pos c47] at H
       obtain ⟨c47b0, c47b1⟩ := eqT c47
       clear c47
       obtain ⟨y516, hy516⟩ : ∃ y_ : List ByteArray, y_ = (([(⟨#[97]⟩ : ByteArray), (⟨#[97]⟩ : ByteArray)] : List ByteArray)) := ⟨_, rfl⟩
       replace H : ((item_Right.f k2 t502 t503 y516 t507 t508 t509).bind fun t519 => (if t519 = true then (some false) else (some true))) = some r := by first | (rw [hy516]; with_reducible exact H) | (have H2_ := (Option.bind_some _ _).symm.trans H; rw [hy516]; with_reducible exact H2_) | (have H2_ := (Option.bind_some _ _).symm.trans H; with_reducible exact H2_) | with_reducible exact H | (rw [hy516]; exact H) | exact H
       have Ny516 := Aside0.mk hy516
       clear hy516
       replace H := Option.bind_eq_some_iff.mp H
       obtain ⟨t519, A480, H⟩ := H
       try dsimp only at H
       have A48 := Aside0.mk A480
       clear A480
       by_cases c49 : t519 = true
       ·subst c49
        have H1 : (some false) = some r := by rw [if_pos rfl] at H; exact H
        clear H
        have H := H1
        clear H1
        exact absurd ((Option.some.inj H).trans HLAW.out) (by decide)
       replace c49 := Bool.eq_false_iff.mpr c49
       subst c49
       have H1 : (some true) = some r := by rw [if_neg (show ¬ (false = true) by decide)] at H; exact H
       clear H
       have H := H1
       clear H1
       obtain rfl := Option.some.inj H
       exact lf31
      rw [if_neg c47] at H
      obtain ⟨c47b0, c47b1⟩ := eqF c47
      by_cases c55 : (Int.tmod (IntKind.u64.wrap (a1)) 9) = 5
      ·rw [if_pos c55] at H
       obtain ⟨c55b0, c55b1⟩ := eqT c55
       clear c55
       obtain ⟨y520, hy520⟩ : ∃ y_ : List ByteArray, y_ = (([(⟨#[]⟩ : ByteArray)] : List ByteArray)) := ⟨_, rfl⟩
       replace H : ((item_Right.f k2 t502 t503 y520 t507 t508 t509).bind fun t523 => (if t523 = true then (some false) else (some true))) = some r := by first | (rw [hy520]; with_reducible exact H) | (have H2_ := (Option.bind_some _ _).symm.trans H; rw [hy520]; with_reducible exact H2_) | (have H2_ := (Option.bind_some _ _).symm.trans H; with_reducible exact H2_) | with_reducible exact H | (rw [hy520]; exact H) | exact H
       have Ny520 := Aside0.mk hy520
       clear hy520
       replace H := Option.bind_eq_some_iff.mp H
       obtain ⟨t523, A560, H⟩ := H
       try dsimp only at H
       have A56 := Aside0.mk A560
       clear A560
       by_cases c57 : t523 = true
       ·subst c57
        have H1 : (some false) = some r := by rw [if_pos rfl] at H; exact H
        clear H
        have H := H1
        clear H1
        exact absurd ((Option.some.inj H).trans HLAW.out) (by decide)
       replace c57 := Bool.eq_false_iff.mpr c57
       subst c57
       have H1 : (some true) = some r := by rw [if_neg (show ¬ (false = true) by decide)] at H; exact H
       clear H
       have H := H1
       clear H1
       obtain rfl := Option.some.inj H
       exact lf31
      rw [if_neg c55] at H
      obtain ⟨c55b0, c55b1⟩ := eqF c55
      by_cases c63 : (Int.tmod (IntKind.u64.wrap (a1)) 9) = 6
      ·rw [if_pos c63] at H
       obtain ⟨c63b0, c63b1⟩ := eqT c63
       clear c63
       obtain ⟨y524, hy524⟩ : ∃ y_ : List ByteArray, y_ = (([x5_2] : List ByteArray)) := ⟨_, rfl⟩
       replace H : ((item_Right.f k2 t502 t503 y524 t507 t508 t509).bind fun t527 => (if t527 = true then (some false) else (some true))) = some r := by first | (rw [hy524]; with_reducible exact H) | (have H2_ := (Option.bind_some _ _).symm.trans H; rw [hy524]; with_reducible exact H2_) | (have H2_ := (Option.bind_some _ _).symm.trans H; with_reducible exact H2_) | with_reducible exact H | (rw [hy524]; exact H) | exact H
       have Ny524 := Aside0.mk hy524
       clear hy524
       replace H := Option.bind_eq_some_iff.mp H
       obtain ⟨t527, A640, H⟩ := H
       try dsimp only at H
       have A64 := Aside0.mk A640
       clear A640
       by_cases c65 : t527 = true
       ·subst c65
        have H1 : (some false) = some r := by rw [if_pos rfl] at H; exact H
        clear H
        have H := H1
        clear H1
        exact absurd ((Option.some.inj H).trans HLAW.out) (by decide)
       replace c65 := Bool.eq_false_iff.mpr c65
       subst c65
       have H1 : (some true) = some r := by rw [if_neg (show ¬ (false = true) by decide)] at H; exact H
       clear H
       have H := H1
       clear H1
       obtain rfl := Option.some.inj H
       exact lf31
      rw [if_neg c63] at H
      obtain ⟨c63b0, c63b1⟩ := eqF c63
      by_cases c71 : (Int.tmod (IntKind.u64.wrap (a1)) 9) = 7
      ·rw [if_pos c71] at H
       obtain ⟨c71b0, c71b1⟩ := eqT c71
       clear c71
       obtain ⟨y528, hy528⟩ : ∃ y_ : List ByteArray, y_ = (([(⟨#[97]⟩ : ByteArray), (⟨#[98]⟩ : ByteArray), (⟨#[99]⟩ : ByteArray), (⟨#[100]⟩ : ByteArray), (⟨#[101]⟩ : ByteArray), (⟨#[102]⟩ : ByteArray), (⟨#[103]⟩ : ByteArray), (⟨#[104]⟩ : ByteArray), (⟨#[105]⟩ : ByteArray)] : List ByteArray)) := ⟨_, rfl⟩
       replace H : ((item_Right.f k2 t502 t503 y528 t507 t508 t509).bind fun t531 => (if t531 = true then (some false) else (some true))) = some r := by first | (rw [hy528]; with_reducible exact H) | (have H2_ := (Option.bind_some _ _).symm.trans H; rw [hy528]; with_reducible exact H2_) | (have H2_ := (Option.bind_some _ _).symm.trans H; with_reducible exact H2_) | with_reducible exact H | (rw [hy528]; exact H) | exact H
       have Ny528 := Aside0.mk hy528
       clear hy528
       replace H := Option.bind_eq_some_iff.mp H
       obtain ⟨t531, A720, H⟩ := H
       try dsimp only at H
       have A72 := Aside0.mk A720
       clear A720
       by_cases c73 : t531 = true
       ·subst c73
        have H1 : (some false) = some r := by rw [if_pos rfl] at H; exact H
        clear H
        have H := H1
        clear H1
        exact absurd ((Option.some.inj H).trans HLAW.out) (by decide)
       replace c73 := Bool.eq_false_iff.mpr c73
       subst c73
       have H1 : (some true) = some r := by rw [if_neg (show ¬ (false = true) by decide)] at H; exact H
       clear H
       have H := H1
       clear H1
       obtain rfl := Option.some.inj H
       exact lf31
      rw [if_neg c71] at H
      obtain ⟨c71b0, c71b1⟩ := eqF c71
      replace H := Option.bind_eq_some_iff.mp H
      obtain ⟨t532, A790, H⟩ := H
      try dsimp only at H
      have A79 := Aside0.mk A790
      clear A790
      by_cases c80 : t532 = true
      ·subst c80
       have H1 : (some false) = some r := by rw [if_pos rfl] at H; exact H
       clear H
       have H := H1
       clear H1
       exact absurd ((Option.some.inj H).trans HLAW.out) (by decide)
      replace c80 := Bool.eq_false_iff.mpr c80
      subst c80
      have H1 : (some true) = some r := by rw [if_neg (show ¬ (false = true) by decide)] at H; exact H
      clear H
      have H := H1
      clear H1
      obtain rfl := Option.some.inj H
      obtain ⟨hcz81_0, hcz81_1, hcz81_2, hcz81_3, hcz81_4, hcz81_5⟩ := cz6 BK496.out
      obtain ⟨hfz81_0, hfz81_1, hfz81_2, hfz81_3, hfz81_4, hfz81_5⟩ := fz6 BK496.out
      exact lf31
 replace c4 := Bool.eq_false_iff.mpr c4
 subst c4
 have H1 : ((cardexlaw14_awake.f k).bind fun t501 => (if t501 = true then (some true) else (some false))) = some r := by rw [if_neg (show ¬ (false = true) by decide)] at H; exact H
 clear H
 have H := H1
 clear H1
 replace H := Option.bind_eq_some_iff.mp H
 obtain ⟨t501, A830, H⟩ := H
 try dsimp only at H
 have A83 := Aside0.mk A830
 clear A830
 by_cases c84 : t501 = true
 ·subst c84
  have H1 : (some true) = some r := by rw [if_pos rfl] at H; exact H
  clear H
  have H := H1
  clear H1
  obtain rfl := Option.some.inj H
  go_enter Tryz.func4, Tryz.ntmps4
  go_wp2_with (first | ((with_reducible refine gd 2 ?_); refine bz #[.string a0_0, .string a0_1, .slice A0_2 l0_2.length c0_2, .int .i64 a0_3, .bool a0_4, .bool a0_5] 24 ?_; intro gb496 hg w85 hbox hb; have n_ := as5 (Kd.V_below (Kd.V_elderB zz36 gb496 (Nat.le_of_eq hg.symm)) hb) (below_step zz0 hb) hbox (gs w hg zz0) (gs w hg zz0); clear HO0_2 HB; obtain ⟨HO0_2, HB, BK496, GW496, GE496⟩ := n_; clear hb hbox hg; obtain ⟨hcz86_0, hcz86_1, hcz86_2, hcz86_3, hcz86_4, hcz86_5⟩ := cz6 BK496.out; obtain ⟨hfz86_0, hfz86_1, hfz86_2, hfz86_3, hfz86_4, hfz86_5⟩ := fz6 BK496.out) | ((with_reducible refine gate_dst (N := 8) rfl ?_); refine Kd.N_lit k24 _ 24 ?hg (N' := 8) ?hd (xs := ([(⟨a0_0, a0_1, l0_2, a0_3, a0_4, a0_5⟩ : S24)] : List (S24))) (inner := [.string a0_0, .string a0_1, .slice A0_2 l0_2.length c0_2, .int .i64 a0_3, .bool a0_4, .bool a0_5]) (ok := (fun k_ => (P0_2_ k_ ∨ w.heap.size ≤ k_) ∧ k_ ≠ gb496)) (okp := (fun k_ => (P0_2_ k_ ∨ w.heap.size ≤ k_) ∧ k_ ≠ gb496)) ?hr ?hp (fun _ hk => hk) ((show ∀ k_, w85.heap.size ≤ k_ → (fun k_ => (P0_2_ k_ ∨ w.heap.size ≤ k_) ∧ k_ ≠ gb496) k_ from fun k_ hk => ⟨(.inr (Nat.le_trans (below_size zz4) hk)), Kd.freshB (g := gb496) (o := .cells #[.string a0_0, .string a0_1, .slice A0_2 l0_2.length c0_2, .int .i64 a0_3, .bool a0_4, .bool a0_5] 24 (0, 0)) zz16 k_ hk⟩) _ (Nat.le_refl _)) (Below.refl _ _) (Nat.le_refl _) (by simp) ?_; (case hd => rfl); (case hg => rfl); (case hr => exact zz19); (case hp => exact (Reps.c6 (show Kd.FK k24 _ _ (⟨a0_0, a0_1, l0_2, a0_3, a0_4, a0_5⟩ : S24) [.string a0_0, .string a0_1, .slice A0_2 l0_2.length c0_2, .int .i64 a0_3, .bool a0_4, .bool a0_5] from (k24_mkF _ _ (⟨a0_0, a0_1, l0_2, a0_3, a0_4, a0_5⟩ : S24) (Kd.V_reads' (Kd.V_mono (ok' := (fun k_ => (P0_2_ k_ ∨ w.heap.size ≤ k_) ∧ k_ ≠ gb496)) (HO0_2.out) (fun k_ hk => ⟨hk.1, hk.2⟩))).2.1 (Kd.V_F (Kd.V_mono (ok' := (fun k_ => (P0_2_ k_ ∨ w.heap.size ≤ k_) ∧ k_ ≠ gb496)) (HO0_2.out) (fun k_ hk => ⟨hk.1, hk.2⟩))))) (Reps.none _ _))); intro v498 w87 ho88 hb hg_ hnew_; clear hg_ hnew_; (first | rw [← Ny497.out] at ho88 | (simp only [Int.reduceToNat] at ho88; rw [← Ny497.out] at ho88)); have n_ := as4 (Kd.V_elder' zz36 (Kd.N_base ho88) hb) (Kd.N_lower ho88 (below_size zz4)) (blk_below zz16 hb) (below_step zz4 hb); clear HO0_2 BK496 HB; obtain ⟨HO0_2, HO499, BK496, HB⟩ := n_; clear hb ho88; obtain ⟨Ao89, co89, eo89⟩ := Kd.N_slice HO499.out; subst eo89) | ((with_reducible refine gc 5 ?_); refine gL (some 9) Tryz.func5 #[.slice Ao89 y497.length co89] ?_; (with_reducible refine (cardexplay_SmallItems.calls k (fun k_ => ((P0_2_ k_ ∨ w.heap.size ≤ k_) ∧ k_ ≠ gb496)) _ _ y497 false _ ?side1 A3.out).mono ?_); (case side1 => exact Kd.N_V (HO499.out)); rintro e w90 ⟨rfl, hb⟩; refine ⟨_, rfl, ?_⟩; have n_ := as4 (Kd.V_below zz36 hb) (Kd.N_below zz51 hb) (blk_below zz16 hb) (below_step zz4 hb); clear HO0_2 HO499 BK496 HB; obtain ⟨HO0_2, HO499, BK496, HB⟩ := n_; (try clear hb)) | ((with_reducible refine gc 6 ?_); refine gL (some 11) Tryz.func6 #[] ?_; (with_reducible refine (cardexlaw14_awake.calls k  true _ A83.out (tabs_b HT.out zz4)).mono ?_); rintro e w91 ⟨rfl, hb⟩; refine ⟨_, rfl, ?_⟩; have n_ := as4 (Kd.V_below zz36 hb) (Kd.N_below zz51 hb) (blk_below zz16 hb) (below_step zz4 hb); clear HO0_2 HO499 BK496 HB; obtain ⟨HO0_2, HO499, BK496, HB⟩ := n_; (try clear hb)))
  go_ret
  exact ⟨zz3, zz4⟩
 replace c84 := Bool.eq_false_iff.mpr c84
 subst c84
 have H1 : (some false) = some r := by rw [if_neg (show ¬ (false = true) by decide)] at H; exact H
 clear H
 have H := H1
 clear H1
 exact absurd ((Option.some.inj H).trans HLAW.out) (by decide)
end Go.Proofs.YtaekklpphlcngaaGreatDoor.Q
