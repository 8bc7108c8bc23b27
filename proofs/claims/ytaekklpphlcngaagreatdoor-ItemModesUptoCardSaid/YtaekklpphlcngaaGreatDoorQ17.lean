-- Written by hookprint.py (wip/) of this session: the kit's print with hand-proved functions beside it. Not trusted: Lean checks it.
import Derived.Test.YtaekklpphlcngaaGreatDoorQ0
import Derived.Test.YtaekklpphlcngaaGreatDoorQ1
import Derived.Test.YtaekklpphlcngaaGreatDoorQ5
import Derived.Test.YtaekklpphlcngaaGreatDoorQ7
import Derived.Test.YtaekklpphlcngaaGreatDoorQ16
namespace Go.Proofs.YtaekklpphlcngaaGreatDoor.Q
open List (setIfInBounds_toArray set_cons_zero set_cons_succ)
open Go.RowKit Go.Lib Go.Proofs.YtaekklpphlcngaaGreatDoorX Go.Proofs.YtaekklpphlcngaaGreatDoorW.PrintWords Go.Proofs.YtaekklpphlcngaaGreatDoorW.PrintLast Go.Proofs.YtaekklpphlcngaaGreatDoorW.PrintMore
set_option linter.unusedVariables false
set_option linter.unusedSimpArgs false
mutual
def cardexlaw14_ItemModes.j0 : Nat → Int → Bool → Bool → Bool → ByteArray → ByteArray → List ByteArray → Int → Bool → Bool → Option (Bool)
 | 0, _, _, _, _, _, _, _, _, _, _ => none
 | k + 1, x0, x1, x2, x26, x497000, x497001, x497002, x497003, x497004, x497005 => if x26 = true then (some false) else (if (Int.tmod x0 6) = 1 then (if (Int.tmod x0 6) = 2 then (cardexlaw14_ItemModes.j1 k x1 x2 true true x497000 x497001 x497002 (Int.tmod x0 6) x1 x2) else (cardexlaw14_ItemModes.j1 k x1 x2 true ((Int.tmod x0 6) == 3) x497000 x497001 x497002 (Int.tmod x0 6) x1 x2)) else (if (Int.tmod x0 6) = 2 then (cardexlaw14_ItemModes.j1 k x1 x2 ((Int.tmod x0 6) == 3) true x497000 x497001 x497002 (Int.tmod x0 6) x1 x2) else (cardexlaw14_ItemModes.j1 k x1 x2 ((Int.tmod x0 6) == 3) ((Int.tmod x0 6) == 3) x497000 x497001 x497002 (Int.tmod x0 6) x1 x2)))
def cardexlaw14_ItemModes.j1 : Nat → Bool → Bool → Bool → Bool → ByteArray → ByteArray → List ByteArray → Int → Bool → Bool → Option (Bool)
 | 0, _, _, _, _, _, _, _, _, _, _ => none
 | k + 1, x1, x2, x9, x10, x497000, x497001, x497002, x497003, x497004, x497005 => if x497003 ≥ 0 then (if x497003 ≤ 3 then (if x1 = true then (if x9 = true then (cardexlaw14_ItemModes.j2 k false x497000 x497001 x497002 x497003 x497004 x497005) else (if x2 = true then (cardexlaw14_ItemModes.j2 k (!x10) x497000 x497001 x497002 x497003 x497004 x497005) else (cardexlaw14_ItemModes.j2 k (!false) x497000 x497001 x497002 x497003 x497004 x497005))) else (if x2 = true then (cardexlaw14_ItemModes.j2 k (!x10) x497000 x497001 x497002 x497003 x497004 x497005) else (cardexlaw14_ItemModes.j2 k (!false) x497000 x497001 x497002 x497003 x497004 x497005))) else (cardexlaw14_ItemModes.j2 k false x497000 x497001 x497002 x497003 x497004 x497005)) else (cardexlaw14_ItemModes.j2 k false x497000 x497001 x497002 x497003 x497004 x497005)
def cardexlaw14_ItemModes.j2 : Nat → Bool → ByteArray → ByteArray → List ByteArray → Int → Bool → Bool → Option (Bool)
 | 0, _, _, _, _, _, _, _ => none
 | k + 1, x11, x497000, x497001, x497002, x497003, x497004, x497005 => if x497000.size + 2 ≤ 9223372036854775807 then ((item_Right.f k x497000 x497001 x497002 x497003 x497004 x497005).bind fun t513 => (if t513 = x11 then ((item_Right.f k (x497000 ++ (⟨#[47, 114]⟩ : ByteArray)) x497001 x497002 x497003 x497004 x497005).bind fun t514 => (if t514 = true then (some false) else (some true))) else (some false))) else (none)
end
def cardexlaw14_ItemModes.f (k : Nat) (a0 : Int) (a1 : Bool) (a2 : Bool) (a3_0 : ByteArray) (a3_1 : ByteArray) (l3_2 : List ByteArray) (a3_3 : Int) (a3_4 : Bool) (a3_5 : Bool) : Option (Bool) := (cardexplay_SmallItems.f k (([(⟨a3_0, a3_1, l3_2, a3_3, a3_4, a3_5⟩ : S24)] : List (S24)))).bind fun t500 => (if t500 = true then ((cardexplay_Item.f k a3_0 a3_1 l3_2 a3_3 a3_4 a3_5 0).bind fun bt502 => ((cardexlaw14_awake.f k).bind fun t510 => (if t510 = true then ((item_Right.f k bt502.1 bt502.2.1 bt502.2.2.1 bt502.2.2.2.1 bt502.2.2.2.2.1 bt502.2.2.2.2.2).bind fun t511 => (cardexlaw14_ItemModes.j0 k a0 a1 a2 (!t511) bt502.1 bt502.2.1 bt502.2.2.1 bt502.2.2.2.1 bt502.2.2.2.2.1 bt502.2.2.2.2.2)) else (cardexlaw14_ItemModes.j0 k a0 a1 a2 true bt502.1 bt502.2.1 bt502.2.2.1 bt502.2.2.2.1 bt502.2.2.2.2.1 bt502.2.2.2.2.2)))) else ((cardexlaw14_awake.f k).bind fun t501 => (if t501 = true then (some true) else (some false))))
set_option maxHeartbeats 8000000 in
set_option maxRecDepth 100000 in
theorem cardexlaw14_ItemModes.calls (k : Nat) (a0 : Int) (a1 : Bool) (a2 : Bool) (a3_0 : ByteArray) (a3_1 : ByteArray) (P3_2_ : Nat → Prop) (A3_2 : Option Addr) (c3_2 : Nat) (l3_2 : List ByteArray) (a3_3 : Int) (a3_4 : Bool) (a3_5 : Bool) (r : Bool) (w : World) (hs3_2 : Kd.V Kd.string 9 w w.heap.size (fun k_ => P3_2_ k_) (.slice A3_2 l3_2.length c3_2) l3_2) (h : cardexlaw14_ItemModes.f k a0 a1 a2 a3_0 a3_1 l3_2 a3_3 a3_4 a3_5 = some r) (hT : Tabs w) (hlaw : r = true) :
  Calls Tryz.prog 3 #[.int .i64 a0, .bool a1, .bool a2, .agg #[.string a3_0, .string a3_1, .slice A3_2 l3_2.length c3_2, .int .i64 a3_3, .bool a3_4, .bool a3_5]] w fun e w' => e = .returned (.bool r) ∧ Below w.heap.size w w' := by
 have hu24 := Tryz.underlying24
 have HT := Aside0.mk hT
 clear hT
 have HLAW := Aside0.mk hlaw
 clear hlaw
 have HO3_2 := Aside0.mk (show Kd.V Kd.string 9 w w.heap.size (fun k_ => (P3_2_ k_ ∨ w.heap.size ≤ k_)) (.slice A3_2 l3_2.length c3_2) l3_2 from Kd.V_mono hs3_2 (fun k_ hk => .inl hk))
 have HB := Aside0.mk (Below.refl w.heap.size w)
 have H : ((cardexplay_SmallItems.f k (([(⟨a3_0, a3_1, l3_2, a3_3, a3_4, a3_5⟩ : S24)] : List (S24)))).bind fun t500 => (if t500 = true then ((cardexplay_Item.f k a3_0 a3_1 l3_2 a3_3 a3_4 a3_5 0).bind fun bt502 => ((cardexlaw14_awake.f k).bind fun t510 => (if t510 = true then ((item_Right.f k bt502.1 bt502.2.1 bt502.2.2.1 bt502.2.2.2.1 bt502.2.2.2.2.1 bt502.2.2.2.2.2).bind fun t511 => (cardexlaw14_ItemModes.j0 k a0 a1 a2 (!t511) bt502.1 bt502.2.1 bt502.2.2.1 bt502.2.2.2.1 bt502.2.2.2.2.1 bt502.2.2.2.2.2)) else (cardexlaw14_ItemModes.j0 k a0 a1 a2 true bt502.1 bt502.2.1 bt502.2.2.1 bt502.2.2.2.1 bt502.2.2.2.2.1 bt502.2.2.2.2.2)))) else ((cardexlaw14_awake.f k).bind fun t501 => (if t501 = true then (some true) else (some false))))) = some r := h
 clear h
 obtain ⟨y497, hy497⟩ : ∃ y_ : List (S24), y_ = (([(⟨a3_0, a3_1, l3_2, a3_3, a3_4, a3_5⟩ : S24)] : List (S24))) := ⟨_, rfl⟩
 replace H : ((cardexplay_SmallItems.f k y497).bind fun t500 => (if t500 = true then ((cardexplay_Item.f k a3_0 a3_1 l3_2 a3_3 a3_4 a3_5 0).bind fun bt502 => ((cardexlaw14_awake.f k).bind fun t510 => (if t510 = true then ((item_Right.f k bt502.1 bt502.2.1 bt502.2.2.1 bt502.2.2.2.1 bt502.2.2.2.2.1 bt502.2.2.2.2.2).bind fun t511 => (cardexlaw14_ItemModes.j0 k a0 a1 a2 (!t511) bt502.1 bt502.2.1 bt502.2.2.1 bt502.2.2.2.1 bt502.2.2.2.2.1 bt502.2.2.2.2.2)) else (cardexlaw14_ItemModes.j0 k a0 a1 a2 true bt502.1 bt502.2.1 bt502.2.2.1 bt502.2.2.2.1 bt502.2.2.2.2.1 bt502.2.2.2.2.2)))) else ((cardexlaw14_awake.f k).bind fun t501 => (if t501 = true then (some true) else (some false))))) = some r := by first | (rw [hy497]; with_reducible exact H) | (have H2_ := (Option.bind_some _ _).symm.trans H; rw [hy497]; with_reducible exact H2_) | (have H2_ := (Option.bind_some _ _).symm.trans H; with_reducible exact H2_) | with_reducible exact H | (rw [hy497]; exact H) | exact H
 have Ny497 := Aside0.mk hy497
 clear hy497
 replace H := Option.bind_eq_some_iff.mp H
 obtain ⟨t500, A50, H⟩ := H
 try dsimp only at H
 have A5 := Aside0.mk A50
 clear A50
 by_cases c6 : t500 = true
 ·subst c6
  have H1 : ((cardexplay_Item.f k a3_0 a3_1 l3_2 a3_3 a3_4 a3_5 0).bind fun bt502 => ((cardexlaw14_awake.f k).bind fun t510 => (if t510 = true then ((item_Right.f k bt502.1 bt502.2.1 bt502.2.2.1 bt502.2.2.2.1 bt502.2.2.2.2.1 bt502.2.2.2.2.2).bind fun t511 => (cardexlaw14_ItemModes.j0 k a0 a1 a2 (!t511) bt502.1 bt502.2.1 bt502.2.2.1 bt502.2.2.2.1 bt502.2.2.2.2.1 bt502.2.2.2.2.2)) else (cardexlaw14_ItemModes.j0 k a0 a1 a2 true bt502.1 bt502.2.1 bt502.2.2.1 bt502.2.2.2.1 bt502.2.2.2.2.1 bt502.2.2.2.2.2)))) = some r := by rw [if_pos rfl] at H; exact H
  clear H
  have H := H1
  clear H1
  replace H := Option.bind_eq_some_iff.mp H
  obtain ⟨⟨t502, t503, t504, t507, t508, t509⟩, A70, H⟩ := H
  try dsimp only at H
  have A7 := Aside0.mk A70
  clear A70
  have HC8 := Aside0.mk H
  clear H
  go_enter Tryz.func3, Tryz.ntmps3
  go_upto_region 4 with (first | ((with_reducible refine gd 7 ?_); refine bz #[.string a3_0, .string a3_1, .slice A3_2 l3_2.length c3_2, .int .i64 a3_3, .bool a3_4, .bool a3_5] 24 ?_; intro gb496 hg w9 hbox hb; have n_ := as5 (Kd.V_below (Kd.V_elderB zz20 gb496 (Nat.le_of_eq hg.symm)) hb) (below_step zz0 hb) hbox (gs w hg zz0) (gs w hg zz0); clear HO3_2 HB; obtain ⟨HO3_2, HB, BK496, GW496, GE496⟩ := n_; clear hb hbox hg; obtain ⟨hcz10_0, hcz10_1, hcz10_2, hcz10_3, hcz10_4, hcz10_5⟩ := cz6 BK496.out; obtain ⟨hfz10_0, hfz10_1, hfz10_2, hfz10_3, hfz10_4, hfz10_5⟩ := fz6 BK496.out) | ((with_reducible refine gate_dst (N := 14) rfl ?_); refine Kd.N_lit k24 _ 24 ?hg (N' := 14) ?hd (xs := ([(⟨a3_0, a3_1, l3_2, a3_3, a3_4, a3_5⟩ : S24)] : List (S24))) (inner := [.string a3_0, .string a3_1, .slice A3_2 l3_2.length c3_2, .int .i64 a3_3, .bool a3_4, .bool a3_5]) (ok := (fun k_ => (P3_2_ k_ ∨ w.heap.size ≤ k_) ∧ k_ ≠ gb496)) (okp := (fun k_ => (P3_2_ k_ ∨ w.heap.size ≤ k_) ∧ k_ ≠ gb496)) ?hr ?hp (fun _ hk => hk) ((show ∀ k_, w9.heap.size ≤ k_ → (fun k_ => (P3_2_ k_ ∨ w.heap.size ≤ k_) ∧ k_ ≠ gb496) k_ from fun k_ hk => ⟨(.inr (Nat.le_trans (below_size zz2) hk)), Kd.freshB (g := gb496) (o := .cells #[.string a3_0, .string a3_1, .slice A3_2 l3_2.length c3_2, .int .i64 a3_3, .bool a3_4, .bool a3_5] 24 (0, 0)) zz7 k_ hk⟩) _ (Nat.le_refl _)) (Below.refl _ _) (Nat.le_refl _) (by simp) ?_; (case hd => rfl); (case hg => rfl); (case hr => exact zz29); (case hp => exact (Reps.c6 (show Kd.FK k24 _ _ (⟨a3_0, a3_1, l3_2, a3_3, a3_4, a3_5⟩ : S24) [.string a3_0, .string a3_1, .slice A3_2 l3_2.length c3_2, .int .i64 a3_3, .bool a3_4, .bool a3_5] from (k24_mkF _ _ (⟨a3_0, a3_1, l3_2, a3_3, a3_4, a3_5⟩ : S24) (Kd.V_reads' (Kd.V_mono (ok' := (fun k_ => (P3_2_ k_ ∨ w.heap.size ≤ k_) ∧ k_ ≠ gb496)) (HO3_2.out) (fun k_ hk => ⟨hk.1, hk.2⟩))).2.1 (Kd.V_F (Kd.V_mono (ok' := (fun k_ => (P3_2_ k_ ∨ w.heap.size ≤ k_) ∧ k_ ≠ gb496)) (HO3_2.out) (fun k_ hk => ⟨hk.1, hk.2⟩))))) (Reps.none _ _))); intro v498 w11 ho12 hb hg_ hnew_; clear hg_ hnew_; (first | rw [← Ny497.out] at ho12 | (simp only [Int.reduceToNat] at ho12; rw [← Ny497.out] at ho12)); have n_ := as4 (Kd.V_elder' zz20 (Kd.N_base ho12) hb) (Kd.N_lower ho12 (below_size zz2)) (blk_below zz7 hb) (below_step zz2 hb); clear HO3_2 BK496 HB; obtain ⟨HO3_2, HO499, BK496, HB⟩ := n_; clear hb ho12; obtain ⟨Ao13, co13, eo13⟩ := Kd.N_slice HO499.out; subst eo13) | (go_at_call 5; (with_reducible refine (cardexplay_SmallItems.calls k (fun k_ => ((P3_2_ k_ ∨ w.heap.size ≤ k_) ∧ k_ ≠ gb496)) _ _ y497 true _ ?side1 A5.out).mono ?_); (case side1 => exact Kd.N_V (HO499.out)); rintro e w14 ⟨rfl, hb⟩; have n_ := as4 (Kd.V_below zz20 hb) (Kd.N_below zz35 hb) (blk_below zz7 hb) (below_step zz2 hb); clear HO3_2 HO499 BK496 HB; obtain ⟨HO3_2, HO499, BK496, HB⟩ := n_; (try clear hb); obtain ⟨hcz15_0, hcz15_1, hcz15_2, hcz15_3, hcz15_4, hcz15_5⟩ := cz6 BK496.out; obtain ⟨hfz15_0, hfz15_1, hfz15_2, hfz15_3, hfz15_4, hfz15_5⟩ := fz6 BK496.out) | (go_at_call 7; (with_reducible refine (cardexplay_Item.calls k a3_0 a3_1 _ _ l3_2 a3_3 a3_4 a3_5 0 t502 t503 t504 t507 t508 t509 _ ?side1 ?side2 A7.out).mono ?_); (case side1 => exact zz68); (case side2 => exact (Kd.V_reads' HO3_2.out).2.1); rintro e w16 ⟨v505, rfl, ho0, hb⟩; have n_ := as5 (Kd.V_elder' zz20 (Kd.R_base ho0) hb) (Kd.N_elder' zz35 (Kd.R_base ho0) hb) (Kd.R_lower (Kd.R_newM (M := fun k_ => (w.heap.size ≤ k_)) ho0 (below_size zz2) (fun k_ h_ => h_)) (below_size zz2)) (blk_below zz7 hb) (below_step zz2 hb); clear HO3_2 HO499 BK496 HB; obtain ⟨HO3_2, HO499, HO506, BK496, HB⟩ := n_; (try clear hb ho0); obtain ⟨hcz17_0, hcz17_1, hcz17_2, hcz17_3, hcz17_4, hcz17_5⟩ := cz6 BK496.out; obtain ⟨hfz17_0, hfz17_1, hfz17_2, hfz17_3, hfz17_4, hfz17_5⟩ := fz6 BK496.out; obtain ⟨Ao18, co18, eo18⟩ := Kd.R_slice HO506.out; subst eo18))
  repeat (go_quiet (first | ((with_reducible refine gd 7 ?_); refine bz #[.string a3_0, .string a3_1, .slice A3_2 l3_2.length c3_2, .int .i64 a3_3, .bool a3_4, .bool a3_5] 24 ?_; intro gb496 hg w9 hbox hb; have n_ := as5 (Kd.V_below (Kd.V_elderB zz20 gb496 (Nat.le_of_eq hg.symm)) hb) (below_step zz0 hb) hbox (gs w hg zz0) (gs w hg zz0); clear HO3_2 HB; obtain ⟨HO3_2, HB, BK496, GW496, GE496⟩ := n_; clear hb hbox hg; obtain ⟨hcz10_0, hcz10_1, hcz10_2, hcz10_3, hcz10_4, hcz10_5⟩ := cz6 BK496.out; obtain ⟨hfz10_0, hfz10_1, hfz10_2, hfz10_3, hfz10_4, hfz10_5⟩ := fz6 BK496.out) | ((with_reducible refine gate_dst (N := 14) rfl ?_); refine Kd.N_lit k24 _ 24 ?hg (N' := 14) ?hd (xs := ([(⟨a3_0, a3_1, l3_2, a3_3, a3_4, a3_5⟩ : S24)] : List (S24))) (inner := [.string a3_0, .string a3_1, .slice A3_2 l3_2.length c3_2, .int .i64 a3_3, .bool a3_4, .bool a3_5]) (ok := (fun k_ => (P3_2_ k_ ∨ w.heap.size ≤ k_) ∧ k_ ≠ gb496)) (okp := (fun k_ => (P3_2_ k_ ∨ w.heap.size ≤ k_) ∧ k_ ≠ gb496)) ?hr ?hp (fun _ hk => hk) ((show ∀ k_, w9.heap.size ≤ k_ → (fun k_ => (P3_2_ k_ ∨ w.heap.size ≤ k_) ∧ k_ ≠ gb496) k_ from fun k_ hk => ⟨(.inr (Nat.le_trans (below_size zz2) hk)), Kd.freshB (g := gb496) (o := .cells #[.string a3_0, .string a3_1, .slice A3_2 l3_2.length c3_2, .int .i64 a3_3, .bool a3_4, .bool a3_5] 24 (0, 0)) zz7 k_ hk⟩) _ (Nat.le_refl _)) (Below.refl _ _) (Nat.le_refl _) (by simp) ?_; (case hd => rfl); (case hg => rfl); (case hr => exact zz29); (case hp => exact (Reps.c6 (show Kd.FK k24 _ _ (⟨a3_0, a3_1, l3_2, a3_3, a3_4, a3_5⟩ : S24) [.string a3_0, .string a3_1, .slice A3_2 l3_2.length c3_2, .int .i64 a3_3, .bool a3_4, .bool a3_5] from (k24_mkF _ _ (⟨a3_0, a3_1, l3_2, a3_3, a3_4, a3_5⟩ : S24) (Kd.V_reads' (Kd.V_mono (ok' := (fun k_ => (P3_2_ k_ ∨ w.heap.size ≤ k_) ∧ k_ ≠ gb496)) (HO3_2.out) (fun k_ hk => ⟨hk.1, hk.2⟩))).2.1 (Kd.V_F (Kd.V_mono (ok' := (fun k_ => (P3_2_ k_ ∨ w.heap.size ≤ k_) ∧ k_ ≠ gb496)) (HO3_2.out) (fun k_ hk => ⟨hk.1, hk.2⟩))))) (Reps.none _ _))); intro v498 w11 ho12 hb hg_ hnew_; clear hg_ hnew_; (first | rw [← Ny497.out] at ho12 | (simp only [Int.reduceToNat] at ho12; rw [← Ny497.out] at ho12)); have n_ := as4 (Kd.V_elder' zz20 (Kd.N_base ho12) hb) (Kd.N_lower ho12 (below_size zz2)) (blk_below zz7 hb) (below_step zz2 hb); clear HO3_2 BK496 HB; obtain ⟨HO3_2, HO499, BK496, HB⟩ := n_; clear hb ho12; obtain ⟨Ao13, co13, eo13⟩ := Kd.N_slice HO499.out; subst eo13) | (go_at_call 5; (with_reducible refine (cardexplay_SmallItems.calls k (fun k_ => ((P3_2_ k_ ∨ w.heap.size ≤ k_) ∧ k_ ≠ gb496)) _ _ y497 true _ ?side1 A5.out).mono ?_); (case side1 => exact Kd.N_V (HO499.out)); rintro e w14 ⟨rfl, hb⟩; have n_ := as4 (Kd.V_below zz20 hb) (Kd.N_below zz35 hb) (blk_below zz7 hb) (below_step zz2 hb); clear HO3_2 HO499 BK496 HB; obtain ⟨HO3_2, HO499, BK496, HB⟩ := n_; (try clear hb); obtain ⟨hcz15_0, hcz15_1, hcz15_2, hcz15_3, hcz15_4, hcz15_5⟩ := cz6 BK496.out; obtain ⟨hfz15_0, hfz15_1, hfz15_2, hfz15_3, hfz15_4, hfz15_5⟩ := fz6 BK496.out) | (go_at_call 7; (with_reducible refine (cardexplay_Item.calls k a3_0 a3_1 _ _ l3_2 a3_3 a3_4 a3_5 0 t502 t503 t504 t507 t508 t509 _ ?side1 ?side2 A7.out).mono ?_); (case side1 => exact zz68); (case side2 => exact (Kd.V_reads' HO3_2.out).2.1); rintro e w16 ⟨v505, rfl, ho0, hb⟩; have n_ := as5 (Kd.V_elder' zz20 (Kd.R_base ho0) hb) (Kd.N_elder' zz35 (Kd.R_base ho0) hb) (Kd.R_lower (Kd.R_newM (M := fun k_ => (w.heap.size ≤ k_)) ho0 (below_size zz2) (fun k_ h_ => h_)) (below_size zz2)) (blk_below zz7 hb) (below_step zz2 hb); clear HO3_2 HO499 BK496 HB; obtain ⟨HO3_2, HO499, HO506, BK496, HB⟩ := n_; (try clear hb ho0); obtain ⟨hcz17_0, hcz17_1, hcz17_2, hcz17_3, hcz17_4, hcz17_5⟩ := cz6 BK496.out; obtain ⟨hfz17_0, hfz17_1, hfz17_2, hfz17_3, hfz17_4, hfz17_5⟩ := fz6 BK496.out; obtain ⟨Ao18, co18, eo18⟩ := Kd.R_slice HO506.out; subst eo18)); go_upto_region 4 with (first | ((with_reducible refine gd 7 ?_); refine bz #[.string a3_0, .string a3_1, .slice A3_2 l3_2.length c3_2, .int .i64 a3_3, .bool a3_4, .bool a3_5] 24 ?_; intro gb496 hg w9 hbox hb; have n_ := as5 (Kd.V_below (Kd.V_elderB zz20 gb496 (Nat.le_of_eq hg.symm)) hb) (below_step zz0 hb) hbox (gs w hg zz0) (gs w hg zz0); clear HO3_2 HB; obtain ⟨HO3_2, HB, BK496, GW496, GE496⟩ := n_; clear hb hbox hg; obtain ⟨hcz10_0, hcz10_1, hcz10_2, hcz10_3, hcz10_4, hcz10_5⟩ := cz6 BK496.out; obtain ⟨hfz10_0, hfz10_1, hfz10_2, hfz10_3, hfz10_4, hfz10_5⟩ := fz6 BK496.out) | ((with_reducible refine gate_dst (N := 14) rfl ?_); refine Kd.N_lit k24 _ 24 ?hg (N' := 14) ?hd (xs := ([(⟨a3_0, a3_1, l3_2, a3_3, a3_4, a3_5⟩ : S24)] : List (S24))) (inner := [.string a3_0, .string a3_1, .slice A3_2 l3_2.length c3_2, .int .i64 a3_3, .bool a3_4, .bool a3_5]) (ok := (fun k_ => (P3_2_ k_ ∨ w.heap.size ≤ k_) ∧ k_ ≠ gb496)) (okp := (fun k_ => (P3_2_ k_ ∨ w.heap.size ≤ k_) ∧ k_ ≠ gb496)) ?hr ?hp (fun _ hk => hk) ((show ∀ k_, w9.heap.size ≤ k_ → (fun k_ => (P3_2_ k_ ∨ w.heap.size ≤ k_) ∧ k_ ≠ gb496) k_ from fun k_ hk => ⟨(.inr (Nat.le_trans (below_size zz2) hk)), Kd.freshB (g := gb496) (o := .cells #[.string a3_0, .string a3_1, .slice A3_2 l3_2.length c3_2, .int .i64 a3_3, .bool a3_4, .bool a3_5] 24 (0, 0)) zz7 k_ hk⟩) _ (Nat.le_refl _)) (Below.refl _ _) (Nat.le_refl _) (by simp) ?_; (case hd => rfl); (case hg => rfl); (case hr => exact zz29); (case hp => exact (Reps.c6 (show Kd.FK k24 _ _ (⟨a3_0, a3_1, l3_2, a3_3, a3_4, a3_5⟩ : S24) [.string a3_0, .string a3_1, .slice A3_2 l3_2.length c3_2, .int .i64 a3_3, .bool a3_4, .bool a3_5] from (k24_mkF _ _ (⟨a3_0, a3_1, l3_2, a3_3, a3_4, a3_5⟩ : S24) (Kd.V_reads' (Kd.V_mono (ok' := (fun k_ => (P3_2_ k_ ∨ w.heap.size ≤ k_) ∧ k_ ≠ gb496)) (HO3_2.out) (fun k_ hk => ⟨hk.1, hk.2⟩))).2.1 (Kd.V_F (Kd.V_mono (ok' := (fun k_ => (P3_2_ k_ ∨ w.heap.size ≤ k_) ∧ k_ ≠ gb496)) (HO3_2.out) (fun k_ hk => ⟨hk.1, hk.2⟩))))) (Reps.none _ _))); intro v498 w11 ho12 hb hg_ hnew_; clear hg_ hnew_; (first | rw [← Ny497.out] at ho12 | (simp only [Int.reduceToNat] at ho12; rw [← Ny497.out] at ho12)); have n_ := as4 (Kd.V_elder' zz20 (Kd.N_base ho12) hb) (Kd.N_lower ho12 (below_size zz2)) (blk_below zz7 hb) (below_step zz2 hb); clear HO3_2 BK496 HB; obtain ⟨HO3_2, HO499, BK496, HB⟩ := n_; clear hb ho12; obtain ⟨Ao13, co13, eo13⟩ := Kd.N_slice HO499.out; subst eo13) | (go_at_call 5; (with_reducible refine (cardexplay_SmallItems.calls k (fun k_ => ((P3_2_ k_ ∨ w.heap.size ≤ k_) ∧ k_ ≠ gb496)) _ _ y497 true _ ?side1 A5.out).mono ?_); (case side1 => exact Kd.N_V (HO499.out)); rintro e w14 ⟨rfl, hb⟩; have n_ := as4 (Kd.V_below zz20 hb) (Kd.N_below zz35 hb) (blk_below zz7 hb) (below_step zz2 hb); clear HO3_2 HO499 BK496 HB; obtain ⟨HO3_2, HO499, BK496, HB⟩ := n_; (try clear hb); obtain ⟨hcz15_0, hcz15_1, hcz15_2, hcz15_3, hcz15_4, hcz15_5⟩ := cz6 BK496.out; obtain ⟨hfz15_0, hfz15_1, hfz15_2, hfz15_3, hfz15_4, hfz15_5⟩ := fz6 BK496.out) | (go_at_call 7; (with_reducible refine (cardexplay_Item.calls k a3_0 a3_1 _ _ l3_2 a3_3 a3_4 a3_5 0 t502 t503 t504 t507 t508 t509 _ ?side1 ?side2 A7.out).mono ?_); (case side1 => exact zz68); (case side2 => exact (Kd.V_reads' HO3_2.out).2.1); rintro e w16 ⟨v505, rfl, ho0, hb⟩; have n_ := as5 (Kd.V_elder' zz20 (Kd.R_base ho0) hb) (Kd.N_elder' zz35 (Kd.R_base ho0) hb) (Kd.R_lower (Kd.R_newM (M := fun k_ => (w.heap.size ≤ k_)) ho0 (below_size zz2) (fun k_ h_ => h_)) (below_size zz2)) (blk_below zz7 hb) (below_step zz2 hb); clear HO3_2 HO499 BK496 HB; obtain ⟨HO3_2, HO499, HO506, BK496, HB⟩ := n_; (try clear hb ho0); obtain ⟨hcz17_0, hcz17_1, hcz17_2, hcz17_3, hcz17_4, hcz17_5⟩ := cz6 BK496.out; obtain ⟨hfz17_0, hfz17_1, hfz17_2, hfz17_3, hfz17_4, hfz17_5⟩ := fz6 BK496.out; obtain ⟨Ao18, co18, eo18⟩ := Kd.R_slice HO506.out; subst eo18)))
  (try simp only [Act.put, setIfInBounds_toArray, set_cons_zero, set_cons_succ])
  go_cut [26] (fun v26 wc => ∃ (kq : Nat) (x26_7 : Bool), v26 = .bool x26_7 ∧ Aside0 (cardexlaw14_ItemModes.j0 kq a0 a1 a2 x26_7 t502 t503 t504 t507 t508 t509 = some r) ∧ Aside0 (kq ≤ k) ∧ Aside0 (Kd.R Kd.string 9 wc w.heap.size (fun k_ => (w.heap.size ≤ k_)) (.slice Ao18 t504.length co18) t504) ∧ Aside0 (wc.heap[gb496]? = some (.cells #[.string t502, .string t503, (.slice Ao18 t504.length co18), .int .i64 t507, .bool t508, .bool t509] 24 (0, 0))) ∧ Aside0 (Below w.heap.size w wc))
  case first =>
   have H := HC8.out
   clear HC8
   replace H := Option.bind_eq_some_iff.mp H
   obtain ⟨t510, A190, H⟩ := H
   try dsimp only at H
   have A19 := Aside0.mk A190
   clear A190
   by_cases c20 : t510 = true
   ·subst c20
    have H1 : ((item_Right.f k t502 t503 t504 t507 t508 t509).bind fun t511 => (cardexlaw14_ItemModes.j0 k a0 a1 a2 (!t511) t502 t503 t504 t507 t508 t509)) = some r := by rw [if_pos rfl] at H; exact H
    clear H
    have H := H1
    clear H1
    replace H := Option.bind_eq_some_iff.mp H
    obtain ⟨t511, A210, H⟩ := H
    try dsimp only at H
    have A21 := Aside0.mk A210
    clear A210
    have H' := Aside0.mk H
    clear H
    go_wp2_with (first | (go_at_call 6; (with_reducible refine (cardexlaw14_awake.calls k  true _ A19.out (tabs_b HT.out zz2)).mono ?_); rintro e w22 ⟨rfl, hb⟩; have n_ := as5 (Kd.V_below zz14 hb) (Kd.N_below zz15 hb) (Kd.R_below zz16 hb) (blk_below (g := gb496) (o := .cells #[.string t502, .string t503, .slice Ao18 t504.length co18, .int .i64 t507, .bool t508, .bool t509] 24 (0, 0)) zz5 hb) (below_step zz2 hb); clear HO3_2 HO499 HO506 BK496 HB; obtain ⟨HO3_2, HO499, HO506, BK496, HB⟩ := n_; (try clear hb); obtain ⟨hcz23_0, hcz23_1, hcz23_2, hcz23_3, hcz23_4, hcz23_5⟩ := cz6 BK496.out; obtain ⟨hfz23_0, hfz23_1, hfz23_2, hfz23_3, hfz23_4, hfz23_5⟩ := fz6 BK496.out) | (go_at_call 8; (with_reducible refine (item_Right.calls k t502 t503 _ _ t504 t507 t508 t509 t511 _ ?side1 ?side2 A21.out (tabs_b HT.out zz2)).mono ?_); (case side1 => exact zz69); (case side2 => exact (Kd.R_reads' HO506.out).2.1); rintro e w24 ⟨rfl, hb⟩; have n_ := as5 (Kd.V_below zz20 hb) (Kd.N_below zz35 hb) (Kd.R_below (by (with_reducible repeat (first | apply Kd.R_alloc | apply Kd.R_drewN | apply Kd.R_drew)); exact HO506.out) hb) (blk_below zz7 hb) (below_step zz2 hb); clear HO3_2 HO499 HO506 BK496 HB; obtain ⟨HO3_2, HO499, HO506, BK496, HB⟩ := n_; (try clear hb)))
    repeat (go_quiet (first | (go_at_call 6; (with_reducible refine (cardexlaw14_awake.calls k  true _ A19.out (tabs_b HT.out zz2)).mono ?_); rintro e w22 ⟨rfl, hb⟩; have n_ := as5 (Kd.V_below zz14 hb) (Kd.N_below zz15 hb) (Kd.R_below zz16 hb) (blk_below (g := gb496) (o := .cells #[.string t502, .string t503, .slice Ao18 t504.length co18, .int .i64 t507, .bool t508, .bool t509] 24 (0, 0)) zz5 hb) (below_step zz2 hb); clear HO3_2 HO499 HO506 BK496 HB; obtain ⟨HO3_2, HO499, HO506, BK496, HB⟩ := n_; (try clear hb); obtain ⟨hcz23_0, hcz23_1, hcz23_2, hcz23_3, hcz23_4, hcz23_5⟩ := cz6 BK496.out; obtain ⟨hfz23_0, hfz23_1, hfz23_2, hfz23_3, hfz23_4, hfz23_5⟩ := fz6 BK496.out) | (go_at_call 8; (with_reducible refine (item_Right.calls k t502 t503 _ _ t504 t507 t508 t509 t511 _ ?side1 ?side2 A21.out (tabs_b HT.out zz2)).mono ?_); (case side1 => exact zz69); (case side2 => exact (Kd.R_reads' HO506.out).2.1); rintro e w24 ⟨rfl, hb⟩; have n_ := as5 (Kd.V_below zz20 hb) (Kd.N_below zz35 hb) (Kd.R_below (by (with_reducible repeat (first | apply Kd.R_alloc | apply Kd.R_drewN | apply Kd.R_drew)); exact HO506.out) hb) (blk_below zz7 hb) (below_step zz2 hb); clear HO3_2 HO499 HO506 BK496 HB; obtain ⟨HO3_2, HO499, HO506, BK496, HB⟩ := n_; (try clear hb))); try go_wp2_with (first | (go_at_call 6; (with_reducible refine (cardexlaw14_awake.calls k  true _ A19.out (tabs_b HT.out zz2)).mono ?_); rintro e w22 ⟨rfl, hb⟩; have n_ := as5 (Kd.V_below zz14 hb) (Kd.N_below zz15 hb) (Kd.R_below zz16 hb) (blk_below (g := gb496) (o := .cells #[.string t502, .string t503, .slice Ao18 t504.length co18, .int .i64 t507, .bool t508, .bool t509] 24 (0, 0)) zz5 hb) (below_step zz2 hb); clear HO3_2 HO499 HO506 BK496 HB; obtain ⟨HO3_2, HO499, HO506, BK496, HB⟩ := n_; (try clear hb); obtain ⟨hcz23_0, hcz23_1, hcz23_2, hcz23_3, hcz23_4, hcz23_5⟩ := cz6 BK496.out; obtain ⟨hfz23_0, hfz23_1, hfz23_2, hfz23_3, hfz23_4, hfz23_5⟩ := fz6 BK496.out) | (go_at_call 8; (with_reducible refine (item_Right.calls k t502 t503 _ _ t504 t507 t508 t509 t511 _ ?side1 ?side2 A21.out (tabs_b HT.out zz2)).mono ?_); (case side1 => exact zz69); (case side2 => exact (Kd.R_reads' HO506.out).2.1); rintro e w24 ⟨rfl, hb⟩; have n_ := as5 (Kd.V_below zz20 hb) (Kd.N_below zz35 hb) (Kd.R_below (by (with_reducible repeat (first | apply Kd.R_alloc | apply Kd.R_drewN | apply Kd.R_drew)); exact HO506.out) hb) (blk_below zz7 hb) (below_step zz2 hb); clear HO3_2 HO499 HO506 BK496 HB; obtain ⟨HO3_2, HO499, HO506, BK496, HB⟩ := n_; (try clear hb))))
    go_meet
    case rel => exact ⟨_, (!t511), zz1, H', ⟨zz57⟩, ⟨by (with_reducible repeat (first | apply Kd.R_alloc | apply Kd.R_drewN | apply Kd.R_drew)); exact Kd.R_mono HO506.out (fun _ hk => hk.1)⟩, ⟨zz7⟩, ⟨zz2⟩⟩
   replace c20 := Bool.eq_false_iff.mpr c20
   subst c20
   have H1 : (cardexlaw14_ItemModes.j0 k a0 a1 a2 true t502 t503 t504 t507 t508 t509) = some r := by rw [if_neg (show ¬ (false = true) by decide)] at H; exact H
   clear H
   have H := H1
   clear H1
   have H' := Aside0.mk H
   clear H
   go_wp2_with (first | (go_at_call 6; (with_reducible refine (cardexlaw14_awake.calls k  false _ A19.out (tabs_b HT.out zz2)).mono ?_); rintro e w25 ⟨rfl, hb⟩; have n_ := as5 (Kd.V_below zz14 hb) (Kd.N_below zz15 hb) (Kd.R_below zz16 hb) (blk_below (g := gb496) (o := .cells #[.string t502, .string t503, .slice Ao18 t504.length co18, .int .i64 t507, .bool t508, .bool t509] 24 (0, 0)) zz5 hb) (below_step zz2 hb); clear HO3_2 HO499 HO506 BK496 HB; obtain ⟨HO3_2, HO499, HO506, BK496, HB⟩ := n_; (try clear hb)))
   repeat (go_quiet (first | (go_at_call 6; (with_reducible refine (cardexlaw14_awake.calls k  false _ A19.out (tabs_b HT.out zz2)).mono ?_); rintro e w25 ⟨rfl, hb⟩; have n_ := as5 (Kd.V_below zz14 hb) (Kd.N_below zz15 hb) (Kd.R_below zz16 hb) (blk_below (g := gb496) (o := .cells #[.string t502, .string t503, .slice Ao18 t504.length co18, .int .i64 t507, .bool t508, .bool t509] 24 (0, 0)) zz5 hb) (below_step zz2 hb); clear HO3_2 HO499 HO506 BK496 HB; obtain ⟨HO3_2, HO499, HO506, BK496, HB⟩ := n_; (try clear hb))); try go_wp2_with (first | (go_at_call 6; (with_reducible refine (cardexlaw14_awake.calls k  false _ A19.out (tabs_b HT.out zz2)).mono ?_); rintro e w25 ⟨rfl, hb⟩; have n_ := as5 (Kd.V_below zz14 hb) (Kd.N_below zz15 hb) (Kd.R_below zz16 hb) (blk_below (g := gb496) (o := .cells #[.string t502, .string t503, .slice Ao18 t504.length co18, .int .i64 t507, .bool t508, .bool t509] 24 (0, 0)) zz5 hb) (below_step zz2 hb); clear HO3_2 HO499 HO506 BK496 HB; obtain ⟨HO3_2, HO499, HO506, BK496, HB⟩ := n_; (try clear hb))))
   go_meet
   case rel => exact ⟨_, (true), zz1, H', ⟨zz57⟩, ⟨by (with_reducible repeat (first | apply Kd.R_alloc | apply Kd.R_drewN | apply Kd.R_drew)); exact Kd.R_mono HO506.out (fun _ hk => hk.1)⟩, ⟨zz7⟩, ⟨zz2⟩⟩
  case rest =>
   clear HC8
   try clear c2
   try clear p2
   try clear c3
   try clear c6
   try clear c20
   try clear hcz10_0
   try clear hcz10_1
   try clear hcz10_2
   try clear hcz10_3
   try clear hcz10_4
   try clear hcz10_5
   try clear hcz15_0
   try clear hcz15_1
   try clear hcz15_2
   try clear hcz15_3
   try clear hcz15_4
   try clear hcz15_5
   try clear hcz17_0
   try clear hcz17_1
   try clear hcz17_2
   try clear hcz17_3
   try clear hcz17_4
   try clear hcz17_5
   try clear hcz23_0
   try clear hcz23_1
   try clear hcz23_2
   try clear hcz23_3
   try clear hcz23_4
   try clear hcz23_5
   try clear hfz10_0
   try clear hfz10_1
   try clear hfz10_2
   try clear hfz10_3
   try clear hfz10_4
   try clear hfz10_5
   try clear hfz15_0
   try clear hfz15_1
   try clear hfz15_2
   try clear hfz15_3
   try clear hfz15_4
   try clear hfz15_5
   try clear hfz17_0
   try clear hfz17_1
   try clear hfz17_2
   try clear hfz17_3
   try clear hfz17_4
   try clear hfz17_5
   try clear hfz23_0
   try clear hfz23_1
   try clear hfz23_2
   try clear hfz23_3
   try clear hfz23_4
   try clear hfz23_5
   obtain ⟨kq, x26_7, rfl, HA, HJ7, HO_497002, BK496, HB⟩ := hcut
   cases kq with
   | zero => exact absurd HA.out (by simp [cardexlaw14_ItemModes.j0])
   | succ kj7 =>
    have H := HA.out
    clear HA
    simp only [cardexlaw14_ItemModes.j0] at H
    by_cases c26 : x26_7 = true
    ·subst c26
     have H1 : (some false) = some r := by rw [if_pos rfl] at H; exact H
     clear H
     have H := H1
     clear H1
     exact absurd ((Option.some.inj H).trans HLAW.out) (by decide)
    replace c26 := Bool.eq_false_iff.mpr c26
    subst c26
    have H1 : (if (Int.tmod a0 6) = 1 then (if (Int.tmod a0 6) = 2 then (cardexlaw14_ItemModes.j1 kj7 a1 a2 true true t502 t503 t504 (Int.tmod a0 6) a1 a2) else (cardexlaw14_ItemModes.j1 kj7 a1 a2 true ((Int.tmod a0 6) == 3) t502 t503 t504 (Int.tmod a0 6) a1 a2)) else (if (Int.tmod a0 6) = 2 then (cardexlaw14_ItemModes.j1 kj7 a1 a2 ((Int.tmod a0 6) == 3) true t502 t503 t504 (Int.tmod a0 6) a1 a2) else (cardexlaw14_ItemModes.j1 kj7 a1 a2 ((Int.tmod a0 6) == 3) ((Int.tmod a0 6) == 3) t502 t503 t504 (Int.tmod a0 6) a1 a2))) = some r := by rw [if_neg (show ¬ (false = true) by decide)] at H; exact H
    clear H
    have H := H1
    clear H1
    have HC27 := Aside0.mk H
    clear H
    obtain ⟨hcz28_0, hcz28_1, hcz28_2, hcz28_3, hcz28_4, hcz28_5⟩ := cz6 BK496.out
    obtain ⟨hfz28_0, hfz28_1, hfz28_2, hfz28_3, hfz28_4, hfz28_5⟩ := fz6 BK496.out
    go_upto_region 7 with (fail)
    repeat (go_quiet (fail); go_upto_region 7 with (fail))
    go_cut [9, 10] (fun v9 v10 wc => ∃ (kq : Nat) (x9_26 : Bool) (x10_26 : Bool), v9 = .bool x9_26 ∧ v10 = .bool x10_26 ∧ Aside0 (cardexlaw14_ItemModes.j1 kq a1 a2 x9_26 x10_26 t502 t503 t504 (Int.tmod a0 6) a1 a2 = some r) ∧ Aside0 (kq ≤ kj7) ∧ Aside0 (Kd.R Kd.string 9 wc w.heap.size (fun k_ => (w.heap.size ≤ k_)) (.slice Ao18 t504.length co18) t504) ∧ Aside0 (wc.heap[gb496]? = some (.cells #[.string t502, .string t503, (.slice Ao18 t504.length co18), .int .i64 (Int.tmod a0 6), .bool a1, .bool a2] 24 (0, 0))) ∧ Aside0 (Below w.heap.size w wc))
    case first =>
     have H := HC27.out
     clear HC27
     by_cases c29 : (Int.tmod a0 6) = 1
     ·rw [if_pos c29] at H
      obtain ⟨c29b0, c29b1⟩ := eqT c29
      clear c29
      (first | rw [c29b0] | (simp only [i64_w, i32_w]; rw [c29b0]) | skip)
      by_cases c30 : (Int.tmod a0 6) = 2
      ·rw [if_pos c30] at H
       obtain ⟨c30b0, c30b1⟩ := eqT c30
       clear c30
       have H' := Aside0.mk H
       clear H
       obtain ⟨hcz31_0, hcz31_1, hcz31_2, hcz31_3, hcz31_4, hcz31_5⟩ := cz6 BK496.out
       obtain ⟨hfz31_0, hfz31_1, hfz31_2, hfz31_3, hfz31_4, hfz31_5⟩ := fz6 BK496.out
       go_wp2
       repeat (go_quiet (fail); try go_wp2)
       go_meet
       case rel => exact ⟨_, (true), (true), zz1, zz1, H', ⟨zz74⟩, ⟨zz40⟩, ⟨zz22⟩, ⟨zz2⟩⟩
      rw [if_neg c30] at H
      obtain ⟨c30b0, c30b1⟩ := eqF c30
      have H' := Aside0.mk H
      clear H
      obtain ⟨hcz32_0, hcz32_1, hcz32_2, hcz32_3, hcz32_4, hcz32_5⟩ := cz6 BK496.out
      obtain ⟨hfz32_0, hfz32_1, hfz32_2, hfz32_3, hfz32_4, hfz32_5⟩ := fz6 BK496.out
      go_wp2
      repeat (go_quiet (fail); try go_wp2)
      go_meet
      case rel => exact ⟨_, (true), (((Int.tmod a0 6) == 3)), zz1, zz1, H', ⟨zz74⟩, ⟨zz40⟩, ⟨zz22⟩, ⟨zz2⟩⟩
     rw [if_neg c29] at H
     obtain ⟨c29b0, c29b1⟩ := eqF c29
     (first | rw [c29b0] | (simp only [i64_w, i32_w]; rw [c29b0]) | skip)
     by_cases c33 : (Int.tmod a0 6) = 2
     ·rw [if_pos c33] at H
      obtain ⟨c33b0, c33b1⟩ := eqT c33
      clear c33
      have H' := Aside0.mk H
      clear H
      obtain ⟨hcz34_0, hcz34_1, hcz34_2, hcz34_3, hcz34_4, hcz34_5⟩ := cz6 BK496.out
      obtain ⟨hfz34_0, hfz34_1, hfz34_2, hfz34_3, hfz34_4, hfz34_5⟩ := fz6 BK496.out
      go_wp2
      repeat (go_quiet (fail); try go_wp2)
      go_meet
      case rel => exact ⟨_, (((Int.tmod a0 6) == 3)), (true), zz1, zz1, H', ⟨zz74⟩, ⟨zz40⟩, ⟨zz22⟩, ⟨zz2⟩⟩
     rw [if_neg c33] at H
     obtain ⟨c33b0, c33b1⟩ := eqF c33
     have H' := Aside0.mk H
     clear H
     obtain ⟨hcz35_0, hcz35_1, hcz35_2, hcz35_3, hcz35_4, hcz35_5⟩ := cz6 BK496.out
     obtain ⟨hfz35_0, hfz35_1, hfz35_2, hfz35_3, hfz35_4, hfz35_5⟩ := fz6 BK496.out
     go_wp2
     repeat (go_quiet (fail); try go_wp2)
     go_meet
     case rel => exact ⟨_, (((Int.tmod a0 6) == 3)), (((Int.tmod a0 6) == 3)), zz1, zz1, H', ⟨zz74⟩, ⟨zz40⟩, ⟨zz22⟩, ⟨zz2⟩⟩
    case rest =>
     clear HC27
     try clear c2
     try clear p2
     try clear c3
     try clear c6
     try clear c20
     try clear c26
     try clear c29
     try clear c29b0
     try clear c29b1
     try clear c30
     try clear c30b0
     try clear c30b1
     try clear c33
     try clear c33b0
     try clear c33b1
     try clear hcz10_0
     try clear hcz10_1
     try clear hcz10_2
     try clear hcz10_3
     try clear hcz10_4
     try clear hcz10_5
     try clear hcz15_0
     try clear hcz15_1
     try clear hcz15_2
     try clear hcz15_3
     try clear hcz15_4
     try clear hcz15_5
     try clear hcz17_0
     try clear hcz17_1
     try clear hcz17_2
     try clear hcz17_3
     try clear hcz17_4
     try clear hcz17_5
     try clear hcz23_0
     try clear hcz23_1
     try clear hcz23_2
     try clear hcz23_3
     try clear hcz23_4
     try clear hcz23_5
     try clear hcz28_0
     try clear hcz28_1
     try clear hcz28_2
     try clear hcz28_3
     try clear hcz28_4
     try clear hcz28_5
     try clear hcz31_0
     try clear hcz31_1
     try clear hcz31_2
     try clear hcz31_3
     try clear hcz31_4
     try clear hcz31_5
     try clear hcz32_0
     try clear hcz32_1
     try clear hcz32_2
     try clear hcz32_3
     try clear hcz32_4
     try clear hcz32_5
     try clear hcz34_0
     try clear hcz34_1
     try clear hcz34_2
     try clear hcz34_3
     try clear hcz34_4
     try clear hcz34_5
     try clear hcz35_0
     try clear hcz35_1
     try clear hcz35_2
     try clear hcz35_3
     try clear hcz35_4
     try clear hcz35_5
     try clear hfz10_0
     try clear hfz10_1
     try clear hfz10_2
     try clear hfz10_3
     try clear hfz10_4
     try clear hfz10_5
     try clear hfz15_0
     try clear hfz15_1
     try clear hfz15_2
     try clear hfz15_3
     try clear hfz15_4
     try clear hfz15_5
     try clear hfz17_0
     try clear hfz17_1
     try clear hfz17_2
     try clear hfz17_3
     try clear hfz17_4
     try clear hfz17_5
     try clear hfz23_0
     try clear hfz23_1
     try clear hfz23_2
     try clear hfz23_3
     try clear hfz23_4
     try clear hfz23_5
     try clear hfz28_0
     try clear hfz28_1
     try clear hfz28_2
     try clear hfz28_3
     try clear hfz28_4
     try clear hfz28_5
     try clear hfz31_0
     try clear hfz31_1
     try clear hfz31_2
     try clear hfz31_3
     try clear hfz31_4
     try clear hfz31_5
     try clear hfz32_0
     try clear hfz32_1
     try clear hfz32_2
     try clear hfz32_3
     try clear hfz32_4
     try clear hfz32_5
     try clear hfz34_0
     try clear hfz34_1
     try clear hfz34_2
     try clear hfz34_3
     try clear hfz34_4
     try clear hfz34_5
     try clear hfz35_0
     try clear hfz35_1
     try clear hfz35_2
     try clear hfz35_3
     try clear hfz35_4
     try clear hfz35_5
     try clear p2
     obtain ⟨kq, x9_26, x10_26, rfl, rfl, HA, HJ26, HO_497002, BK496, HB⟩ := hcut
     cases kq with
     | zero => exact absurd HA.out (by simp [cardexlaw14_ItemModes.j1])
     | succ kj26 =>
      have H := HA.out
      clear HA
      simp only [cardexlaw14_ItemModes.j1] at H
      have HC36 := Aside0.mk H
      clear H
      go_upto_region 8 with (fail)
      repeat (go_quiet (fail); go_upto_region 8 with (fail))
      go_cut [11] (fun v11 wc => ∃ (kq : Nat) (x11_35 : Bool), v11 = .bool x11_35 ∧ Aside0 (cardexlaw14_ItemModes.j2 kq x11_35 t502 t503 t504 (Int.tmod a0 6) a1 a2 = some r) ∧ Aside0 (kq ≤ kj26) ∧ Aside0 (Kd.R Kd.string 9 wc w.heap.size (fun k_ => (w.heap.size ≤ k_)) (.slice Ao18 t504.length co18) t504) ∧ Aside0 (wc.heap[gb496]? = some (.cells #[.string t502, .string t503, (.slice Ao18 t504.length co18), .int .i64 (Int.tmod a0 6), .bool a1, .bool a2] 24 (0, 0))) ∧ Aside0 (Below w.heap.size w wc))
      case first =>
       have H := HC36.out
       clear HC36
       by_cases c37 : (Int.tmod a0 6) ≥ 0
       ·rw [if_pos c37] at H
        have c37b0 := decide_eq_true c37
        clear c37
        (first | rw [c37b0] | (simp only [i64_w, i32_w]; rw [c37b0]) | skip)
        by_cases c38 : (Int.tmod a0 6) ≤ 3
        ·rw [if_pos c38] at H
         have c38b0 := decide_eq_true c38
         clear c38
         by_cases c39 : a1 = true
         ·subst c39
          have H1 : (if x9_26 = true then (cardexlaw14_ItemModes.j2 kj26 false t502 t503 t504 (Int.tmod a0 6) true a2) else (if a2 = true then (cardexlaw14_ItemModes.j2 kj26 (!x10_26) t502 t503 t504 (Int.tmod a0 6) true a2) else (cardexlaw14_ItemModes.j2 kj26 (!false) t502 t503 t504 (Int.tmod a0 6) true a2))) = some r := by rw [if_pos rfl] at H; exact H
          clear H
          have H := H1
          clear H1
          by_cases c40 : x9_26 = true
          ·subst c40
           have H1 : (cardexlaw14_ItemModes.j2 kj26 false t502 t503 t504 (Int.tmod a0 6) true a2) = some r := by rw [if_pos rfl] at H; exact H
           clear H
           have H := H1
           clear H1
           have H' := Aside0.mk H
           clear H
           obtain ⟨hcz41_0, hcz41_1, hcz41_2, hcz41_3, hcz41_4, hcz41_5⟩ := cz6 BK496.out
           obtain ⟨hfz41_0, hfz41_1, hfz41_2, hfz41_3, hfz41_4, hfz41_5⟩ := fz6 BK496.out
           go_wp2
           repeat (go_quiet (fail); try go_wp2)
           go_meet
           case rel => exact ⟨_, (false), zz1, H', ⟨zz59⟩, ⟨zz38⟩, ⟨zz7⟩, ⟨zz2⟩⟩
          replace c40 := Bool.eq_false_iff.mpr c40
          subst c40
          have H1 : (if a2 = true then (cardexlaw14_ItemModes.j2 kj26 (!x10_26) t502 t503 t504 (Int.tmod a0 6) true a2) else (cardexlaw14_ItemModes.j2 kj26 (!false) t502 t503 t504 (Int.tmod a0 6) true a2)) = some r := by rw [if_neg (show ¬ (false = true) by decide)] at H; exact H
          clear H
          have H := H1
          clear H1
          by_cases c42 : a2 = true
          ·subst c42
           have H1 : (cardexlaw14_ItemModes.j2 kj26 (!x10_26) t502 t503 t504 (Int.tmod a0 6) true true) = some r := by rw [if_pos rfl] at H; exact H
           clear H
           have H := H1
           clear H1
           have H' := Aside0.mk H
           clear H
           obtain ⟨hcz43_0, hcz43_1, hcz43_2, hcz43_3, hcz43_4, hcz43_5⟩ := cz6 BK496.out
           obtain ⟨hfz43_0, hfz43_1, hfz43_2, hfz43_3, hfz43_4, hfz43_5⟩ := fz6 BK496.out
           go_wp2
           repeat (go_quiet (fail); try go_wp2)
           go_meet
           case rel => exact ⟨_, (!x10_26), zz1, H', ⟨zz59⟩, ⟨zz38⟩, ⟨zz7⟩, ⟨zz2⟩⟩
          replace c42 := Bool.eq_false_iff.mpr c42
          subst c42
          have H1 : (cardexlaw14_ItemModes.j2 kj26 (!false) t502 t503 t504 (Int.tmod a0 6) true false) = some r := by rw [if_neg (show ¬ (false = true) by decide)] at H; exact H
          clear H
          have H := H1
          clear H1
          have H' := Aside0.mk H
          clear H
          obtain ⟨hcz44_0, hcz44_1, hcz44_2, hcz44_3, hcz44_4, hcz44_5⟩ := cz6 BK496.out
          obtain ⟨hfz44_0, hfz44_1, hfz44_2, hfz44_3, hfz44_4, hfz44_5⟩ := fz6 BK496.out
          go_wp2
          repeat (go_quiet (fail); try go_wp2)
          go_meet
          case rel => exact ⟨_, (!false), zz1, H', ⟨zz59⟩, ⟨zz38⟩, ⟨zz7⟩, ⟨zz2⟩⟩
         replace c39 := Bool.eq_false_iff.mpr c39
         subst c39
         have H1 : (if a2 = true then (cardexlaw14_ItemModes.j2 kj26 (!x10_26) t502 t503 t504 (Int.tmod a0 6) false a2) else (cardexlaw14_ItemModes.j2 kj26 (!false) t502 t503 t504 (Int.tmod a0 6) false a2)) = some r := by rw [if_neg (show ¬ (false = true) by decide)] at H; exact H
         clear H
         have H := H1
         clear H1
         by_cases c45 : a2 = true
         ·subst c45
          have H1 : (cardexlaw14_ItemModes.j2 kj26 (!x10_26) t502 t503 t504 (Int.tmod a0 6) false true) = some r := by rw [if_pos rfl] at H; exact H
          clear H
          have H := H1
          clear H1
          have H' := Aside0.mk H
          clear H
          obtain ⟨hcz46_0, hcz46_1, hcz46_2, hcz46_3, hcz46_4, hcz46_5⟩ := cz6 BK496.out
          obtain ⟨hfz46_0, hfz46_1, hfz46_2, hfz46_3, hfz46_4, hfz46_5⟩ := fz6 BK496.out
          go_wp2
          repeat (go_quiet (fail); try go_wp2)
          go_meet
          case rel => exact ⟨_, (!x10_26), zz1, H', ⟨zz59⟩, ⟨zz38⟩, ⟨zz7⟩, ⟨zz2⟩⟩
         replace c45 := Bool.eq_false_iff.mpr c45
         subst c45
         have H1 : (cardexlaw14_ItemModes.j2 kj26 (!false) t502 t503 t504 (Int.tmod a0 6) false false) = some r := by rw [if_neg (show ¬ (false = true) by decide)] at H; exact H
         clear H
         have H := H1
         clear H1
         have H' := Aside0.mk H
         clear H
         obtain ⟨hcz47_0, hcz47_1, hcz47_2, hcz47_3, hcz47_4, hcz47_5⟩ := cz6 BK496.out
         obtain ⟨hfz47_0, hfz47_1, hfz47_2, hfz47_3, hfz47_4, hfz47_5⟩ := fz6 BK496.out
         go_wp2
         repeat (go_quiet (fail); try go_wp2)
         go_meet
         case rel => exact ⟨_, (!false), zz1, H', ⟨zz59⟩, ⟨zz38⟩, ⟨zz7⟩, ⟨zz2⟩⟩
        rw [if_neg c38] at H
        have c38b0 := decide_eq_false c38
        clear c38
        have H' := Aside0.mk H
        clear H
        obtain ⟨hcz48_0, hcz48_1, hcz48_2, hcz48_3, hcz48_4, hcz48_5⟩ := cz6 BK496.out
        obtain ⟨hfz48_0, hfz48_1, hfz48_2, hfz48_3, hfz48_4, hfz48_5⟩ := fz6 BK496.out
        go_wp2
        repeat (go_quiet (fail); try go_wp2)
        go_meet
        case rel => exact ⟨_, (false), zz1, H', ⟨zz59⟩, ⟨zz38⟩, ⟨zz7⟩, ⟨zz2⟩⟩
       rw [if_neg c37] at H
       have c37b0 := decide_eq_false c37
       clear c37
       (first | rw [c37b0] | (simp only [i64_w, i32_w]; rw [c37b0]) | skip)
       have H' := Aside0.mk H
       clear H
       obtain ⟨hcz49_0, hcz49_1, hcz49_2, hcz49_3, hcz49_4, hcz49_5⟩ := cz6 BK496.out
       obtain ⟨hfz49_0, hfz49_1, hfz49_2, hfz49_3, hfz49_4, hfz49_5⟩ := fz6 BK496.out
       go_wp2
       repeat (go_quiet (fail); try go_wp2)
       go_meet
       case rel => exact ⟨_, (false), zz1, H', ⟨zz59⟩, ⟨zz38⟩, ⟨zz7⟩, ⟨zz2⟩⟩
      case rest =>
       clear HC36
       try clear c2
       try clear p2
       try clear c3
       try clear c4
       try clear c6
       try clear c20
       try clear c26
       try clear c29
       try clear c29b0
       try clear c29b1
       try clear c30
       try clear c30b0
       try clear c30b1
       try clear c33
       try clear c33b0
       try clear c33b1
       try clear c37
       try clear c37b0
       try clear c38
       try clear c38b0
       try clear c39
       try clear c40
       try clear c42
       try clear c45
       try clear hcz10_0
       try clear hcz10_1
       try clear hcz10_2
       try clear hcz10_3
       try clear hcz10_4
       try clear hcz10_5
       try clear hcz15_0
       try clear hcz15_1
       try clear hcz15_2
       try clear hcz15_3
       try clear hcz15_4
       try clear hcz15_5
       try clear hcz17_0
       try clear hcz17_1
       try clear hcz17_2
       try clear hcz17_3
       try clear hcz17_4
       try clear hcz17_5
       try clear hcz23_0
       try clear hcz23_1
       try clear hcz23_2
       try clear hcz23_3
       try clear hcz23_4
       try clear hcz23_5
       try clear hcz28_0
       try clear hcz28_1
       try clear hcz28_2
       try clear hcz28_3
       try clear hcz28_4
       try clear hcz28_5
       try clear hcz31_0
       try clear hcz31_1
       try clear hcz31_2
       try clear hcz31_3
       try clear hcz31_4
       try clear hcz31_5
       try clear hcz32_0
       try clear hcz32_1
       try clear hcz32_2
       try clear hcz32_3
       try clear hcz32_4
       try clear hcz32_5
       try clear hcz34_0
       try clear hcz34_1
       try clear hcz34_2
       try clear hcz34_3
       try clear hcz34_4
       try clear hcz34_5
       try clear hcz35_0
       try clear hcz35_1
       try clear hcz35_2
       try clear hcz35_3
       try clear hcz35_4
       try clear hcz35_5
       try clear hcz41_0
       try clear hcz41_1
       try clear hcz41_2
       try clear hcz41_3
       try clear hcz41_4
       try clear hcz41_5
       try clear hcz43_0
       try clear hcz43_1
       try clear hcz43_2
       try clear hcz43_3
       try clear hcz43_4
       try clear hcz43_5
       try clear hcz44_0
       try clear hcz44_1
       try clear hcz44_2
       try clear hcz44_3
       try clear hcz44_4
       try clear hcz44_5
       try clear hcz46_0
       try clear hcz46_1
       try clear hcz46_2
       try clear hcz46_3
       try clear hcz46_4
       try clear hcz46_5
       try clear hcz47_0
       try clear hcz47_1
       try clear hcz47_2
       try clear hcz47_3
       try clear hcz47_4
       try clear hcz47_5
       try clear hcz48_0
       try clear hcz48_1
       try clear hcz48_2
       try clear hcz48_3
       try clear hcz48_4
       try clear hcz48_5
       try clear hcz49_0
       try clear hcz49_1
       try clear hcz49_2
       try clear hcz49_3
       try clear hcz49_4
       try clear hcz49_5
       try clear hfz10_0
       try clear hfz10_1
       try clear hfz10_2
       try clear hfz10_3
       try clear hfz10_4
       try clear hfz10_5
       try clear hfz15_0
       try clear hfz15_1
       try clear hfz15_2
       try clear hfz15_3
       try clear hfz15_4
       try clear hfz15_5
       try clear hfz17_0
       try clear hfz17_1
       try clear hfz17_2
       try clear hfz17_3
       try clear hfz17_4
       try clear hfz17_5
       try clear hfz23_0
       try clear hfz23_1
       try clear hfz23_2
       try clear hfz23_3
       try clear hfz23_4
       try clear hfz23_5
       try clear hfz28_0
       try clear hfz28_1
       try clear hfz28_2
       try clear hfz28_3
       try clear hfz28_4
       try clear hfz28_5
       try clear hfz31_0
       try clear hfz31_1
       try clear hfz31_2
       try clear hfz31_3
       try clear hfz31_4
       try clear hfz31_5
       try clear hfz32_0
       try clear hfz32_1
       try clear hfz32_2
       try clear hfz32_3
       try clear hfz32_4
       try clear hfz32_5
       try clear hfz34_0
       try clear hfz34_1
       try clear hfz34_2
       try clear hfz34_3
       try clear hfz34_4
       try clear hfz34_5
       try clear hfz35_0
       try clear hfz35_1
       try clear hfz35_2
       try clear hfz35_3
       try clear hfz35_4
       try clear hfz35_5
       try clear hfz41_0
       try clear hfz41_1
       try clear hfz41_2
       try clear hfz41_3
       try clear hfz41_4
       try clear hfz41_5
       try clear hfz43_0
       try clear hfz43_1
       try clear hfz43_2
       try clear hfz43_3
       try clear hfz43_4
       try clear hfz43_5
       try clear hfz44_0
       try clear hfz44_1
       try clear hfz44_2
       try clear hfz44_3
       try clear hfz44_4
       try clear hfz44_5
       try clear hfz46_0
       try clear hfz46_1
       try clear hfz46_2
       try clear hfz46_3
       try clear hfz46_4
       try clear hfz46_5
       try clear hfz47_0
       try clear hfz47_1
       try clear hfz47_2
       try clear hfz47_3
       try clear hfz47_4
       try clear hfz47_5
       try clear hfz48_0
       try clear hfz48_1
       try clear hfz48_2
       try clear hfz48_3
       try clear hfz48_4
       try clear hfz48_5
       try clear hfz49_0
       try clear hfz49_1
       try clear hfz49_2
       try clear hfz49_3
       try clear hfz49_4
       try clear hfz49_5
       try clear p2
       obtain ⟨kq, x11_35, rfl, HA, HJ35, HO_497002, BK496, HB⟩ := hcut
       cases kq with
       | zero => exact absurd HA.out (by simp [cardexlaw14_ItemModes.j2])
       | succ kj35 =>
        have H := HA.out
        clear HA
        simp only [cardexlaw14_ItemModes.j2] at H
        by_cases c50 : t502.size + 2 ≤ 9223372036854775807
        ·rw [if_pos c50] at H
         have c50b0 := eq_true c50
         have c50b1 : decide (t502.size + 2 ≤ 9223372036854775807) = true := decide_eq_true c50
         try have c50b2 : (9223372036854775807 < t502.size + 2) = False := eq_false (Nat.not_lt.2 c50)
         replace H := Option.bind_eq_some_iff.mp H
         obtain ⟨t513, A510, H⟩ := H
         try dsimp only at H
         have A51 := Aside0.mk A510
         clear A510
         by_cases c52 : t513 = x11_35
         ·rw [if_pos c52] at H
          obtain ⟨c52b0, c52b1⟩ := eqT c52
          clear c52
          replace H := Option.bind_eq_some_iff.mp H
          obtain ⟨t514, A530, H⟩ := H
          try dsimp only at H
          have A53 := Aside0.mk A530
          clear A530
          by_cases c54 : t514 = true
          ·subst c54
           have H1 : (some false) = some r := by rw [if_pos rfl] at H; exact H
           clear H
           have H := H1
           clear H1
           exact absurd ((Option.some.inj H).trans HLAW.out) (by decide)
          replace c54 := Bool.eq_false_iff.mpr c54
          subst c54
          have H1 : (some true) = some r := by rw [if_neg (show ¬ (false = true) by decide)] at H; exact H
          clear H
          have H := H1
          clear H1
          obtain rfl := Option.some.inj H
          obtain ⟨hcz55_0, hcz55_1, hcz55_2, hcz55_3, hcz55_4, hcz55_5⟩ := cz6 BK496.out
          obtain ⟨hfz55_0, hfz55_1, hfz55_2, hfz55_3, hfz55_4, hfz55_5⟩ := fz6 BK496.out
          go_wp2_with (first | ((with_reducible refine gd 12 ?_); refine bz #[.string (⟨#[]⟩ : ByteArray), .string (⟨#[]⟩ : ByteArray), .slice none 0 0, .int .i64 0, .bool false, .bool false] 24 ?_; intro gb512 hg w56 hbox hb; have n_ := as8 (Kd.R_below zz38 hb) (blk_below zz7 hb) (below_step zz2 hb) hbox (gs w hg zz2) (gs w hg zz2) (nl hg zz7) (ng hg zz7); clear HO_497002 BK496 HB; obtain ⟨HO_497002, BK496, HB, BK512, GW512, GE512, NB496_512, NB512_496⟩ := n_; clear hb hbox hg; have hnb57 := NB512_496.out; have hnc57 := NB496_512.out; obtain ⟨hcz58_0, hcz58_1, hcz58_2, hcz58_3, hcz58_4, hcz58_5⟩ := cz6 BK512.out; obtain ⟨hfz58_0, hfz58_1, hfz58_2, hfz58_3, hfz58_4, hfz58_5⟩ := fz6 BK512.out; obtain ⟨hcz59_0, hcz59_1, hcz59_2, hcz59_3, hcz59_4, hcz59_5⟩ := cz6 BK496.out; obtain ⟨hfz59_0, hfz59_1, hfz59_2, hfz59_3, hfz59_4, hfz59_5⟩ := fz6 BK496.out) | (go_at_call 8; (with_reducible refine (item_Right.calls kj35 t502 t503 _ _ t504 (Int.tmod a0 6) a1 a2 t513 _ ?side1 ?side2 A51.out (tabs_b HT.out zz24)).mono ?_); (case side1 => exact (by refine (Kd.R_reads' (e := 9) (base := w.heap.size) (ok := fun k_ => (w.heap.size ≤ k_)) (n := t504.length) (c := co18) ?_).2.2; exact zz11)); (case side2 => exact (Kd.R_reads' HO_497002.out).2.1); rintro e w60 ⟨rfl, hb⟩; have n_ := as4 (Kd.R_below zz11 hb) (blk_below (g := gb496) (o := .cells #[.string t502, .string t503, .slice Ao18 t504.length co18, .int .i64 (Int.tmod a0 6), .bool a1, .bool a2] 24 (0, 0)) zz25 hb) (blk_below (g := gb512) (o := .cells #[.string (t502 ++ (⟨#[47, 114]⟩ : ByteArray)), .string t503, .slice Ao18 t504.length co18, .int .i64 (Int.tmod a0 6), .bool a1, .bool a2] 24 (0, 0)) zz13 hb) (below_step zz24 hb); clear HO_497002 BK496 BK512 HB; obtain ⟨HO_497002, BK496, BK512, HB⟩ := n_; (try clear hb); obtain ⟨hcz61_0, hcz61_1, hcz61_2, hcz61_3, hcz61_4, hcz61_5⟩ := cz6 BK512.out; obtain ⟨hfz61_0, hfz61_1, hfz61_2, hfz61_3, hfz61_4, hfz61_5⟩ := fz6 BK512.out) | (go_at_call 8; (with_reducible refine (item_Right.calls kj35 (t502 ++ (⟨#[47, 114]⟩ : ByteArray)) t503 _ _ t504 (Int.tmod a0 6) a1 a2 false _ ?side1 ?side2 A53.out (tabs_b HT.out zz24)).mono ?_); (case side1 => exact zz65); (case side2 => exact (Kd.R_reads' HO_497002.out).2.1); rintro e w62 ⟨rfl, hb⟩; have n_ := as4 (Kd.R_below zz38 hb) (blk_below zz7 hb) (blk_below (by (with_reducible repeat (first | refine blk_drewN ?_ _ | refine blk_drew ?_ | refine blk_alloc ?_ _)); exact BK512.out) hb) (below_step zz24 hb); clear HO_497002 BK496 BK512 HB; obtain ⟨HO_497002, BK496, BK512, HB⟩ := n_; (try clear hb)))
          repeat (go_quiet (first | ((with_reducible refine gd 12 ?_); refine bz #[.string (⟨#[]⟩ : ByteArray), .string (⟨#[]⟩ : ByteArray), .slice none 0 0, .int .i64 0, .bool false, .bool false] 24 ?_; intro gb512 hg w56 hbox hb; have n_ := as8 (Kd.R_below zz38 hb) (blk_below zz7 hb) (below_step zz2 hb) hbox (gs w hg zz2) (gs w hg zz2) (nl hg zz7) (ng hg zz7); clear HO_497002 BK496 HB; obtain ⟨HO_497002, BK496, HB, BK512, GW512, GE512, NB496_512, NB512_496⟩ := n_; clear hb hbox hg; have hnb57 := NB512_496.out; have hnc57 := NB496_512.out; obtain ⟨hcz58_0, hcz58_1, hcz58_2, hcz58_3, hcz58_4, hcz58_5⟩ := cz6 BK512.out; obtain ⟨hfz58_0, hfz58_1, hfz58_2, hfz58_3, hfz58_4, hfz58_5⟩ := fz6 BK512.out; obtain ⟨hcz59_0, hcz59_1, hcz59_2, hcz59_3, hcz59_4, hcz59_5⟩ := cz6 BK496.out; obtain ⟨hfz59_0, hfz59_1, hfz59_2, hfz59_3, hfz59_4, hfz59_5⟩ := fz6 BK496.out) | (go_at_call 8; (with_reducible refine (item_Right.calls kj35 t502 t503 _ _ t504 (Int.tmod a0 6) a1 a2 t513 _ ?side1 ?side2 A51.out (tabs_b HT.out zz24)).mono ?_); (case side1 => exact (by refine (Kd.R_reads' (e := 9) (base := w.heap.size) (ok := fun k_ => (w.heap.size ≤ k_)) (n := t504.length) (c := co18) ?_).2.2; exact zz11)); (case side2 => exact (Kd.R_reads' HO_497002.out).2.1); rintro e w60 ⟨rfl, hb⟩; have n_ := as4 (Kd.R_below zz11 hb) (blk_below (g := gb496) (o := .cells #[.string t502, .string t503, .slice Ao18 t504.length co18, .int .i64 (Int.tmod a0 6), .bool a1, .bool a2] 24 (0, 0)) zz25 hb) (blk_below (g := gb512) (o := .cells #[.string (t502 ++ (⟨#[47, 114]⟩ : ByteArray)), .string t503, .slice Ao18 t504.length co18, .int .i64 (Int.tmod a0 6), .bool a1, .bool a2] 24 (0, 0)) zz13 hb) (below_step zz24 hb); clear HO_497002 BK496 BK512 HB; obtain ⟨HO_497002, BK496, BK512, HB⟩ := n_; (try clear hb); obtain ⟨hcz61_0, hcz61_1, hcz61_2, hcz61_3, hcz61_4, hcz61_5⟩ := cz6 BK512.out; obtain ⟨hfz61_0, hfz61_1, hfz61_2, hfz61_3, hfz61_4, hfz61_5⟩ := fz6 BK512.out) | (go_at_call 8; (with_reducible refine (item_Right.calls kj35 (t502 ++ (⟨#[47, 114]⟩ : ByteArray)) t503 _ _ t504 (Int.tmod a0 6) a1 a2 false _ ?side1 ?side2 A53.out (tabs_b HT.out zz24)).mono ?_); (case side1 => exact zz65); (case side2 => exact (Kd.R_reads' HO_497002.out).2.1); rintro e w62 ⟨rfl, hb⟩; have n_ := as4 (Kd.R_below zz38 hb) (blk_below zz7 hb) (blk_below (by (with_reducible repeat (first | refine blk_drewN ?_ _ | refine blk_drew ?_ | refine blk_alloc ?_ _)); exact BK512.out) hb) (below_step zz24 hb); clear HO_497002 BK496 BK512 HB; obtain ⟨HO_497002, BK496, BK512, HB⟩ := n_; (try clear hb))); try go_wp2_with (first | ((with_reducible refine gd 12 ?_); refine bz #[.string (⟨#[]⟩ : ByteArray), .string (⟨#[]⟩ : ByteArray), .slice none 0 0, .int .i64 0, .bool false, .bool false] 24 ?_; intro gb512 hg w56 hbox hb; have n_ := as8 (Kd.R_below zz38 hb) (blk_below zz7 hb) (below_step zz2 hb) hbox (gs w hg zz2) (gs w hg zz2) (nl hg zz7) (ng hg zz7); clear HO_497002 BK496 HB; obtain ⟨HO_497002, BK496, HB, BK512, GW512, GE512, NB496_512, NB512_496⟩ := n_; clear hb hbox hg; have hnb57 := NB512_496.out; have hnc57 := NB496_512.out; obtain ⟨hcz58_0, hcz58_1, hcz58_2, hcz58_3, hcz58_4, hcz58_5⟩ := cz6 BK512.out; obtain ⟨hfz58_0, hfz58_1, hfz58_2, hfz58_3, hfz58_4, hfz58_5⟩ := fz6 BK512.out; obtain ⟨hcz59_0, hcz59_1, hcz59_2, hcz59_3, hcz59_4, hcz59_5⟩ := cz6 BK496.out; obtain ⟨hfz59_0, hfz59_1, hfz59_2, hfz59_3, hfz59_4, hfz59_5⟩ := fz6 BK496.out) | (go_at_call 8; (with_reducible refine (item_Right.calls kj35 t502 t503 _ _ t504 (Int.tmod a0 6) a1 a2 t513 _ ?side1 ?side2 A51.out (tabs_b HT.out zz24)).mono ?_); (case side1 => exact (by refine (Kd.R_reads' (e := 9) (base := w.heap.size) (ok := fun k_ => (w.heap.size ≤ k_)) (n := t504.length) (c := co18) ?_).2.2; exact zz11)); (case side2 => exact (Kd.R_reads' HO_497002.out).2.1); rintro e w60 ⟨rfl, hb⟩; have n_ := as4 (Kd.R_below zz11 hb) (blk_below (g := gb496) (o := .cells #[.string t502, .string t503, .slice Ao18 t504.length co18, .int .i64 (Int.tmod a0 6), .bool a1, .bool a2] 24 (0, 0)) zz25 hb) (blk_below (g := gb512) (o := .cells #[.string (t502 ++ (⟨#[47, 114]⟩ : ByteArray)), .string t503, .slice Ao18 t504.length co18, .int .i64 (Int.tmod a0 6), .bool a1, .bool a2] 24 (0, 0)) zz13 hb) (below_step zz24 hb); clear HO_497002 BK496 BK512 HB; obtain ⟨HO_497002, BK496, BK512, HB⟩ := n_; (try clear hb); obtain ⟨hcz61_0, hcz61_1, hcz61_2, hcz61_3, hcz61_4, hcz61_5⟩ := cz6 BK512.out; obtain ⟨hfz61_0, hfz61_1, hfz61_2, hfz61_3, hfz61_4, hfz61_5⟩ := fz6 BK512.out) | (go_at_call 8; (with_reducible refine (item_Right.calls kj35 (t502 ++ (⟨#[47, 114]⟩ : ByteArray)) t503 _ _ t504 (Int.tmod a0 6) a1 a2 false _ ?side1 ?side2 A53.out (tabs_b HT.out zz24)).mono ?_); (case side1 => exact zz65); (case side2 => exact (Kd.R_reads' HO_497002.out).2.1); rintro e w62 ⟨rfl, hb⟩; have n_ := as4 (Kd.R_below zz38 hb) (blk_below zz7 hb) (blk_below (by (with_reducible repeat (first | refine blk_drewN ?_ _ | refine blk_drew ?_ | refine blk_alloc ?_ _)); exact BK512.out) hb) (below_step zz24 hb); clear HO_497002 BK496 BK512 HB; obtain ⟨HO_497002, BK496, BK512, HB⟩ := n_; (try clear hb))))
          go_ret
          exact ⟨zz4, zz24⟩
         rw [if_neg c52] at H
         obtain ⟨c52b0, c52b1⟩ := eqF c52
         exact absurd ((Option.some.inj H).trans HLAW.out) (by decide)
        rw [if_neg c50] at H
        exact absurd H (by simp)
 replace c6 := Bool.eq_false_iff.mpr c6
 subst c6
 have H1 : ((cardexlaw14_awake.f k).bind fun t501 => (if t501 = true then (some true) else (some false))) = some r := by rw [if_neg (show ¬ (false = true) by decide)] at H; exact H
 clear H
 have H := H1
 clear H1
 replace H := Option.bind_eq_some_iff.mp H
 obtain ⟨t501, A630, H⟩ := H
 try dsimp only at H
 have A63 := Aside0.mk A630
 clear A630
 by_cases c64 : t501 = true
 ·subst c64
  have H1 : (some true) = some r := by rw [if_pos rfl] at H; exact H
  clear H
  have H := H1
  clear H1
  obtain rfl := Option.some.inj H
  go_enter Tryz.func3, Tryz.ntmps3
  go_wp2_with (first | ((with_reducible refine gd 7 ?_); refine bz #[.string a3_0, .string a3_1, .slice A3_2 l3_2.length c3_2, .int .i64 a3_3, .bool a3_4, .bool a3_5] 24 ?_; intro gb496 hg w65 hbox hb; have n_ := as5 (Kd.V_below (Kd.V_elderB zz20 gb496 (Nat.le_of_eq hg.symm)) hb) (below_step zz0 hb) hbox (gs w hg zz0) (gs w hg zz0); clear HO3_2 HB; obtain ⟨HO3_2, HB, BK496, GW496, GE496⟩ := n_; clear hb hbox hg; obtain ⟨hcz66_0, hcz66_1, hcz66_2, hcz66_3, hcz66_4, hcz66_5⟩ := cz6 BK496.out; obtain ⟨hfz66_0, hfz66_1, hfz66_2, hfz66_3, hfz66_4, hfz66_5⟩ := fz6 BK496.out) | ((with_reducible refine gate_dst (N := 14) rfl ?_); refine Kd.N_lit k24 _ 24 ?hg (N' := 14) ?hd (xs := ([(⟨a3_0, a3_1, l3_2, a3_3, a3_4, a3_5⟩ : S24)] : List (S24))) (inner := [.string a3_0, .string a3_1, .slice A3_2 l3_2.length c3_2, .int .i64 a3_3, .bool a3_4, .bool a3_5]) (ok := (fun k_ => (P3_2_ k_ ∨ w.heap.size ≤ k_) ∧ k_ ≠ gb496)) (okp := (fun k_ => (P3_2_ k_ ∨ w.heap.size ≤ k_) ∧ k_ ≠ gb496)) ?hr ?hp (fun _ hk => hk) ((show ∀ k_, w65.heap.size ≤ k_ → (fun k_ => (P3_2_ k_ ∨ w.heap.size ≤ k_) ∧ k_ ≠ gb496) k_ from fun k_ hk => ⟨(.inr (Nat.le_trans (below_size zz2) hk)), Kd.freshB (g := gb496) (o := .cells #[.string a3_0, .string a3_1, .slice A3_2 l3_2.length c3_2, .int .i64 a3_3, .bool a3_4, .bool a3_5] 24 (0, 0)) zz7 k_ hk⟩) _ (Nat.le_refl _)) (Below.refl _ _) (Nat.le_refl _) (by simp) ?_; (case hd => rfl); (case hg => rfl); (case hr => exact zz29); (case hp => exact (Reps.c6 (show Kd.FK k24 _ _ (⟨a3_0, a3_1, l3_2, a3_3, a3_4, a3_5⟩ : S24) [.string a3_0, .string a3_1, .slice A3_2 l3_2.length c3_2, .int .i64 a3_3, .bool a3_4, .bool a3_5] from (k24_mkF _ _ (⟨a3_0, a3_1, l3_2, a3_3, a3_4, a3_5⟩ : S24) (Kd.V_reads' (Kd.V_mono (ok' := (fun k_ => (P3_2_ k_ ∨ w.heap.size ≤ k_) ∧ k_ ≠ gb496)) (HO3_2.out) (fun k_ hk => ⟨hk.1, hk.2⟩))).2.1 (Kd.V_F (Kd.V_mono (ok' := (fun k_ => (P3_2_ k_ ∨ w.heap.size ≤ k_) ∧ k_ ≠ gb496)) (HO3_2.out) (fun k_ hk => ⟨hk.1, hk.2⟩))))) (Reps.none _ _))); intro v498 w67 ho68 hb hg_ hnew_; clear hg_ hnew_; (first | rw [← Ny497.out] at ho68 | (simp only [Int.reduceToNat] at ho68; rw [← Ny497.out] at ho68)); have n_ := as4 (Kd.V_elder' zz20 (Kd.N_base ho68) hb) (Kd.N_lower ho68 (below_size zz2)) (blk_below zz7 hb) (below_step zz2 hb); clear HO3_2 BK496 HB; obtain ⟨HO3_2, HO499, BK496, HB⟩ := n_; clear hb ho68; obtain ⟨Ao69, co69, eo69⟩ := Kd.N_slice HO499.out; subst eo69) | (go_at_call 5; (with_reducible refine (cardexplay_SmallItems.calls k (fun k_ => ((P3_2_ k_ ∨ w.heap.size ≤ k_) ∧ k_ ≠ gb496)) _ _ y497 false _ ?side1 A5.out).mono ?_); (case side1 => exact Kd.N_V (HO499.out)); rintro e w70 ⟨rfl, hb⟩; have n_ := as4 (Kd.V_below zz20 hb) (Kd.N_below zz35 hb) (blk_below zz7 hb) (below_step zz2 hb); clear HO3_2 HO499 BK496 HB; obtain ⟨HO3_2, HO499, BK496, HB⟩ := n_; (try clear hb)) | (go_at_call 6; (with_reducible refine (cardexlaw14_awake.calls k  true _ A63.out (tabs_b HT.out zz2)).mono ?_); rintro e w71 ⟨rfl, hb⟩; have n_ := as4 (Kd.V_below zz20 hb) (Kd.N_below zz35 hb) (blk_below zz7 hb) (below_step zz2 hb); clear HO3_2 HO499 BK496 HB; obtain ⟨HO3_2, HO499, BK496, HB⟩ := n_; (try clear hb)))
  repeat (go_quiet (first | ((with_reducible refine gd 7 ?_); refine bz #[.string a3_0, .string a3_1, .slice A3_2 l3_2.length c3_2, .int .i64 a3_3, .bool a3_4, .bool a3_5] 24 ?_; intro gb496 hg w65 hbox hb; have n_ := as5 (Kd.V_below (Kd.V_elderB zz20 gb496 (Nat.le_of_eq hg.symm)) hb) (below_step zz0 hb) hbox (gs w hg zz0) (gs w hg zz0); clear HO3_2 HB; obtain ⟨HO3_2, HB, BK496, GW496, GE496⟩ := n_; clear hb hbox hg; obtain ⟨hcz66_0, hcz66_1, hcz66_2, hcz66_3, hcz66_4, hcz66_5⟩ := cz6 BK496.out; obtain ⟨hfz66_0, hfz66_1, hfz66_2, hfz66_3, hfz66_4, hfz66_5⟩ := fz6 BK496.out) | ((with_reducible refine gate_dst (N := 14) rfl ?_); refine Kd.N_lit k24 _ 24 ?hg (N' := 14) ?hd (xs := ([(⟨a3_0, a3_1, l3_2, a3_3, a3_4, a3_5⟩ : S24)] : List (S24))) (inner := [.string a3_0, .string a3_1, .slice A3_2 l3_2.length c3_2, .int .i64 a3_3, .bool a3_4, .bool a3_5]) (ok := (fun k_ => (P3_2_ k_ ∨ w.heap.size ≤ k_) ∧ k_ ≠ gb496)) (okp := (fun k_ => (P3_2_ k_ ∨ w.heap.size ≤ k_) ∧ k_ ≠ gb496)) ?hr ?hp (fun _ hk => hk) ((show ∀ k_, w65.heap.size ≤ k_ → (fun k_ => (P3_2_ k_ ∨ w.heap.size ≤ k_) ∧ k_ ≠ gb496) k_ from fun k_ hk => ⟨(.inr (Nat.le_trans (below_size zz2) hk)), Kd.freshB (g := gb496) (o := .cells #[.string a3_0, .string a3_1, .slice A3_2 l3_2.length c3_2, .int .i64 a3_3, .bool a3_4, .bool a3_5] 24 (0, 0)) zz7 k_ hk⟩) _ (Nat.le_refl _)) (Below.refl _ _) (Nat.le_refl _) (by simp) ?_; (case hd => rfl); (case hg => rfl); (case hr => exact zz29); (case hp => exact (Reps.c6 (show Kd.FK k24 _ _ (⟨a3_0, a3_1, l3_2, a3_3, a3_4, a3_5⟩ : S24) [.string a3_0, .string a3_1, .slice A3_2 l3_2.length c3_2, .int .i64 a3_3, .bool a3_4, .bool a3_5] from (k24_mkF _ _ (⟨a3_0, a3_1, l3_2, a3_3, a3_4, a3_5⟩ : S24) (Kd.V_reads' (Kd.V_mono (ok' := (fun k_ => (P3_2_ k_ ∨ w.heap.size ≤ k_) ∧ k_ ≠ gb496)) (HO3_2.out) (fun k_ hk => ⟨hk.1, hk.2⟩))).2.1 (Kd.V_F (Kd.V_mono (ok' := (fun k_ => (P3_2_ k_ ∨ w.heap.size ≤ k_) ∧ k_ ≠ gb496)) (HO3_2.out) (fun k_ hk => ⟨hk.1, hk.2⟩))))) (Reps.none _ _))); intro v498 w67 ho68 hb hg_ hnew_; clear hg_ hnew_; (first | rw [← Ny497.out] at ho68 | (simp only [Int.reduceToNat] at ho68; rw [← Ny497.out] at ho68)); have n_ := as4 (Kd.V_elder' zz20 (Kd.N_base ho68) hb) (Kd.N_lower ho68 (below_size zz2)) (blk_below zz7 hb) (below_step zz2 hb); clear HO3_2 BK496 HB; obtain ⟨HO3_2, HO499, BK496, HB⟩ := n_; clear hb ho68; obtain ⟨Ao69, co69, eo69⟩ := Kd.N_slice HO499.out; subst eo69) | (go_at_call 5; (with_reducible refine (cardexplay_SmallItems.calls k (fun k_ => ((P3_2_ k_ ∨ w.heap.size ≤ k_) ∧ k_ ≠ gb496)) _ _ y497 false _ ?side1 A5.out).mono ?_); (case side1 => exact Kd.N_V (HO499.out)); rintro e w70 ⟨rfl, hb⟩; have n_ := as4 (Kd.V_below zz20 hb) (Kd.N_below zz35 hb) (blk_below zz7 hb) (below_step zz2 hb); clear HO3_2 HO499 BK496 HB; obtain ⟨HO3_2, HO499, BK496, HB⟩ := n_; (try clear hb)) | (go_at_call 6; (with_reducible refine (cardexlaw14_awake.calls k  true _ A63.out (tabs_b HT.out zz2)).mono ?_); rintro e w71 ⟨rfl, hb⟩; have n_ := as4 (Kd.V_below zz20 hb) (Kd.N_below zz35 hb) (blk_below zz7 hb) (below_step zz2 hb); clear HO3_2 HO499 BK496 HB; obtain ⟨HO3_2, HO499, BK496, HB⟩ := n_; (try clear hb))); try go_wp2_with (first | ((with_reducible refine gd 7 ?_); refine bz #[.string a3_0, .string a3_1, .slice A3_2 l3_2.length c3_2, .int .i64 a3_3, .bool a3_4, .bool a3_5] 24 ?_; intro gb496 hg w65 hbox hb; have n_ := as5 (Kd.V_below (Kd.V_elderB zz20 gb496 (Nat.le_of_eq hg.symm)) hb) (below_step zz0 hb) hbox (gs w hg zz0) (gs w hg zz0); clear HO3_2 HB; obtain ⟨HO3_2, HB, BK496, GW496, GE496⟩ := n_; clear hb hbox hg; obtain ⟨hcz66_0, hcz66_1, hcz66_2, hcz66_3, hcz66_4, hcz66_5⟩ := cz6 BK496.out; obtain ⟨hfz66_0, hfz66_1, hfz66_2, hfz66_3, hfz66_4, hfz66_5⟩ := fz6 BK496.out) | ((with_reducible refine gate_dst (N := 14) rfl ?_); refine Kd.N_lit k24 _ 24 ?hg (N' := 14) ?hd (xs := ([(⟨a3_0, a3_1, l3_2, a3_3, a3_4, a3_5⟩ : S24)] : List (S24))) (inner := [.string a3_0, .string a3_1, .slice A3_2 l3_2.length c3_2, .int .i64 a3_3, .bool a3_4, .bool a3_5]) (ok := (fun k_ => (P3_2_ k_ ∨ w.heap.size ≤ k_) ∧ k_ ≠ gb496)) (okp := (fun k_ => (P3_2_ k_ ∨ w.heap.size ≤ k_) ∧ k_ ≠ gb496)) ?hr ?hp (fun _ hk => hk) ((show ∀ k_, w65.heap.size ≤ k_ → (fun k_ => (P3_2_ k_ ∨ w.heap.size ≤ k_) ∧ k_ ≠ gb496) k_ from fun k_ hk => ⟨(.inr (Nat.le_trans (below_size zz2) hk)), Kd.freshB (g := gb496) (o := .cells #[.string a3_0, .string a3_1, .slice A3_2 l3_2.length c3_2, .int .i64 a3_3, .bool a3_4, .bool a3_5] 24 (0, 0)) zz7 k_ hk⟩) _ (Nat.le_refl _)) (Below.refl _ _) (Nat.le_refl _) (by simp) ?_; (case hd => rfl); (case hg => rfl); (case hr => exact zz29); (case hp => exact (Reps.c6 (show Kd.FK k24 _ _ (⟨a3_0, a3_1, l3_2, a3_3, a3_4, a3_5⟩ : S24) [.string a3_0, .string a3_1, .slice A3_2 l3_2.length c3_2, .int .i64 a3_3, .bool a3_4, .bool a3_5] from (k24_mkF _ _ (⟨a3_0, a3_1, l3_2, a3_3, a3_4, a3_5⟩ : S24) (Kd.V_reads' (Kd.V_mono (ok' := (fun k_ => (P3_2_ k_ ∨ w.heap.size ≤ k_) ∧ k_ ≠ gb496)) (HO3_2.out) (fun k_ hk => ⟨hk.1, hk.2⟩))).2.1 (Kd.V_F (Kd.V_mono (ok' := (fun k_ => (P3_2_ k_ ∨ w.heap.size ≤ k_) ∧ k_ ≠ gb496)) (HO3_2.out) (fun k_ hk => ⟨hk.1, hk.2⟩))))) (Reps.none _ _))); intro v498 w67 ho68 hb hg_ hnew_; clear hg_ hnew_; (first | rw [← Ny497.out] at ho68 | (simp only [Int.reduceToNat] at ho68; rw [← Ny497.out] at ho68)); have n_ := as4 (Kd.V_elder' zz20 (Kd.N_base ho68) hb) (Kd.N_lower ho68 (below_size zz2)) (blk_below zz7 hb) (below_step zz2 hb); clear HO3_2 BK496 HB; obtain ⟨HO3_2, HO499, BK496, HB⟩ := n_; clear hb ho68; obtain ⟨Ao69, co69, eo69⟩ := Kd.N_slice HO499.out; subst eo69) | (go_at_call 5; (with_reducible refine (cardexplay_SmallItems.calls k (fun k_ => ((P3_2_ k_ ∨ w.heap.size ≤ k_) ∧ k_ ≠ gb496)) _ _ y497 false _ ?side1 A5.out).mono ?_); (case side1 => exact Kd.N_V (HO499.out)); rintro e w70 ⟨rfl, hb⟩; have n_ := as4 (Kd.V_below zz20 hb) (Kd.N_below zz35 hb) (blk_below zz7 hb) (below_step zz2 hb); clear HO3_2 HO499 BK496 HB; obtain ⟨HO3_2, HO499, BK496, HB⟩ := n_; (try clear hb)) | (go_at_call 6; (with_reducible refine (cardexlaw14_awake.calls k  true _ A63.out (tabs_b HT.out zz2)).mono ?_); rintro e w71 ⟨rfl, hb⟩; have n_ := as4 (Kd.V_below zz20 hb) (Kd.N_below zz35 hb) (blk_below zz7 hb) (below_step zz2 hb); clear HO3_2 HO499 BK496 HB; obtain ⟨HO3_2, HO499, BK496, HB⟩ := n_; (try clear hb))))
  go_ret
  exact ⟨zz4, zz2⟩
 replace c64 := Bool.eq_false_iff.mpr c64
 subst c64
 have H1 : (some false) = some r := by rw [if_neg (show ¬ (false = true) by decide)] at H; exact H
 clear H
 have H := H1
 clear H1
 exact absurd ((Option.some.inj H).trans HLAW.out) (by decide)
end Go.Proofs.YtaekklpphlcngaaGreatDoor.Q
