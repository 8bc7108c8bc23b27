-- Written by hookprint.py (wip/) of this session: the kit's print with hand-proved functions beside it. Not trusted: Lean checks it.
import Derived.Test.YtgacmniagmfckaaDoorQ0
import Derived.Test.YtgacmniagmfckaaDoorQ2
import Derived.Test.YtgacmniagmfckaaDoorQ3
namespace Go.Proofs.YtgacmniagmfckaaDoor.Q
open List (setIfInBounds_toArray set_cons_zero set_cons_succ)
open Go.RowKit Go.Lib Go.Proofs.YtgacmniagmfckaaDoorX Go.Proofs.YtgacmniagmfckaaDoorW.PrintWords Go.Proofs.YtgacmniagmfckaaDoorW.PrintLast Go.Proofs.YtgacmniagmfckaaDoorW.PrintMore
set_option linter.unusedVariables false
set_option linter.unusedSimpArgs false
mutual
def tree_Kids.j0 : Nat → List (S32) → Int → Bool → Option (List Int)
 | 0, _, _, _ => none
 | k + 1, x0, x1, x15 => if x15 = true then (some ([] : List Int)) else (tree_Kids.l0 k x1 ([] : List Int) x0 (x0.length : Int) 0)
def tree_Kids.l0 : Nat → Int → List Int → List (S32) → Int → Int → Option (List Int)
 | 0, _, _, _, _, _ => none
 | k + 1, x1, x5, x16, x17, x18 => if x18 < x17 then (if 0 ≤ x18 then (if x18 < (x16.length : Int) then (if ((rd_T32 x16 x18).f0) = x1 then (if x5.length < 17592186044416 then (tree_Kids.l0 k x1 (x5 ++ [x18]) x16 x17 (wrap64 (x18 + 1))) else (none)) else (tree_Kids.l0 k x1 x5 x16 x17 (wrap64 (x18 + 1)))) else (none)) else (none)) else (some x5)
end
def tree_Kids.f (k : Nat) (l0 : List (S32)) (a1 : Int) : Option (List Int) := if a1 < 0 then (tree_Kids.j0 k l0 a1 true) else (tree_Kids.j0 k l0 a1 (decide (a1 ≥ (l0.length : Int))))
theorem tree_Kids.mono_l : ∀ k, (∀ y0 y1 y2, LeO (tree_Kids.j0 k y0 y1 y2) (tree_Kids.j0 (k + 1) y0 y1 y2)) ∧ (∀ y0 y1 y2 y3 y4, LeO (tree_Kids.l0 k y0 y1 y2 y3 y4) (tree_Kids.l0 (k + 1) y0 y1 y2 y3 y4))
 | 0 => ⟨fun _ _ _ r h => by simp [tree_Kids.j0] at h, fun _ _ _ _ _ r h => by simp [tree_Kids.l0] at h⟩
 | k + 1 => by
  obtain ⟨ih0, ih1⟩ := tree_Kids.mono_l k
  refine ⟨?_, ?_⟩
  ·intro y0 y1 y2
   unfold tree_Kids.j0
   repeat' first
   | (with_reducible exact ih0 _ _ _)
   | (with_reducible exact ih1 _ _ _ _ _)
   | (with_reducible exact LeO.refl _)
   | (with_reducible exact LeO.none _)
   | (with_reducible refine LeO.ite ?_ ?_)
   | (with_reducible refine LeO.bind ?_ (fun _ => ?_))
   | exact ih0 _ _ _
   | exact ih1 _ _ _ _ _
   | exact LeO.none _
   | refine LeO.ite ?_ ?_
   | refine LeO.bind ?_ (fun _ => ?_)
  intro y0 y1 y2 y3 y4
  unfold tree_Kids.l0
  repeat' first
  | (with_reducible exact ih0 _ _ _)
  | (with_reducible exact ih1 _ _ _ _ _)
  | (with_reducible exact LeO.refl _)
  | (with_reducible exact LeO.none _)
  | (with_reducible refine LeO.ite ?_ ?_)
  | (with_reducible refine LeO.bind ?_ (fun _ => ?_))
  | exact ih0 _ _ _
  | exact ih1 _ _ _ _ _
  | exact LeO.none _
  | refine LeO.ite ?_ ?_
  | refine LeO.bind ?_ (fun _ => ?_)
theorem tree_Kids.mono : ∀ a0 a1 k, LeO (tree_Kids.f k a0 a1) (tree_Kids.f (k + 1) a0 a1) := by
 intro a0 a1 k
 obtain ⟨ih0, ih1⟩ := tree_Kids.mono_l k
 unfold tree_Kids.f
 repeat' first
   | (with_reducible exact ih0 _ _ _)
   | (with_reducible exact ih1 _ _ _ _ _)
   | (with_reducible exact LeO.refl _)
   | (with_reducible exact LeO.none _)
   | (with_reducible refine LeO.ite ?_ ?_)
   | (with_reducible refine LeO.bind ?_ (fun _ => ?_))
   | exact ih0 _ _ _
   | exact ih1 _ _ _ _ _
   | exact LeO.none _
   | refine LeO.ite ?_ ?_
   | refine LeO.bind ?_ (fun _ => ?_)
set_option maxHeartbeats 8000000 in
set_option maxRecDepth 100000 in
theorem tree_Kids.calls (k : Nat) (A0 : Option Addr) (c0 : Nat) (l0 : List (S32)) (a1 : Int) (r : List Int) (w : World) (hr0 : Kd.C k32 w A0 l0.length l0) (hc0 : l0.length ≤ c0) (h : tree_Kids.f k l0 a1 = some r) :
  Calls Tryd.prog 25 #[.slice A0 l0.length c0, .int .i64 a1] w fun e w' => ∃ v0_ : Value, e = .returned (v0_) ∧ Kd.R (Kd.int .i64) 3 w' w.heap.size (fun _ => True) v0_ r ∧ Below w.heap.size w w' := by
 have hu32 := Tryd.underlying32
 have HR0 := Aside0.mk hr0
 have HC0 := Aside0.mk hc0
 clear hr0 hc0
 have HB := Aside0.mk (Below.refl w.heap.size w)
 have H : (if a1 < 0 then (tree_Kids.j0 k l0 a1 true) else (tree_Kids.j0 k l0 a1 (decide (a1 ≥ (l0.length : Int))))) = some r := h
 clear h
 have HC3 := Aside0.mk H
 clear H
 go_enter Tryd.func25, Tryd.ntmps25
 go_upto_region 1 with (fail)
 go_cut [15] (fun v15 wc => ∃ (kq : Nat) (x15_2 : Bool), v15 = .bool x15_2 ∧ Aside0 (tree_Kids.j0 kq l0 a1 x15_2 = some r) ∧ Aside0 (kq ≤ k) ∧ Aside0 (Below w.heap.size w wc))
 case first =>
  have H := HC3.out
  clear HC3
  by_cases c4 : a1 < 0
  ·rw [if_pos c4] at H
   have c4b0 : decide (a1 < 0) = true := decide_eq_true c4
   clear c4
   (first | rw [c4b0] | (simp only [i64_w, i32_w]; rw [c4b0]) | (have h_ := c4b0; rw [List.beq_nil_eq] at h_; rw [h_]) | skip)
   have H' := Aside0.mk H
   clear H
   go_wp2
   go_meet
   case rel => exact ⟨_, (true), (by first | rfl | (simp; done) | exact congrArg Value.bool (nemp _) | exact congrArg Value.bool (emp _) | (simp [*]; done)), H', ⟨by first | omega | exact Nat.le_refl _⟩, ⟨by repeat (first | (with_reducible first | exact HB.out | apply below_alloc | apply pw_below_drewN | apply below_drew1) | exact HB.out)⟩⟩
  rw [if_neg c4] at H
  have c4b0 : decide (a1 < 0) = false := decide_eq_false c4
  clear c4
  (first | rw [c4b0] | (simp only [i64_w, i32_w]; rw [c4b0]) | (have h_ := c4b0; rw [List.beq_nil_eq] at h_; rw [h_]) | skip)
  have H' := Aside0.mk H
  clear H
  go_wp2
  go_meet
  case rel => exact ⟨_, (decide (a1 ≥ (l0.length : Int))), (by first | rfl | (simp; done) | exact congrArg Value.bool (nemp _) | exact congrArg Value.bool (emp _) | (simp [*]; done)), H', ⟨by first | omega | exact Nat.le_refl _⟩, ⟨by repeat (first | (with_reducible first | exact HB.out | apply below_alloc | apply pw_below_drewN | apply below_drew1) | exact HB.out)⟩⟩
 case rest =>
  clear HC3
  try clear c2
  try clear p2
  try clear c4
  try clear c4b0
  obtain ⟨kq, x15_2, rfl, HA, HJ2, HB⟩ := hcut
  cases kq with
  | zero => exact absurd HA.out (by simp [tree_Kids.j0])
  | succ kj2 =>
   have H := HA.out
   clear HA
   simp only [tree_Kids.j0] at H
   by_cases c5 : x15_2 = true
   ·subst c5
    have H1 : (some ([] : List Int)) = some r := by rw [if_pos rfl] at H; exact H
    clear H
    have H := H1
    clear H1
    obtain rfl := Option.some.inj H
    go_wp2
    go_ret
    exact ⟨_, by first | rfl | (simp only [nemp]; rfl) | (simp [errW_none, errW_some] <;> rfl) | (simp [*, errW_none, errW_some] <;> rfl), by first | exact Kd.R_nil _ _ _ _ _ | exact Kd.N_nil _ _ _ _ _ | exact Kd.V_nil _ _ _ _ _ | exact Kd.Q_nil _ _ _ _ _ | exact Kd.S_nil _ _ _ _ _, by repeat (first | (with_reducible first | exact HB.out | apply below_alloc | apply pw_below_drewN | apply below_drew1) | exact HB.out)⟩
   replace c5 := Bool.eq_false_iff.mpr c5
   subst c5
   have H1 : (tree_Kids.l0 kj2 a1 ([] : List Int) l0 (l0.length : Int) 0) = some r := by rw [if_neg (show ¬ (false = true) by decide)] at H; exact H
   clear H
   have H := H1
   clear H1
   have H' := Aside0.mk H
   clear H
   go_wp2
   go_loopg [5, 18] kj2 (fun kq v5 v18 w' => ∃ (x5_2 : List Int) (x18_2 : Int), v18 = .int .i64 x18_2 ∧ Aside0 (tree_Kids.l0 kq a1 x5_2 l0 (l0.length : Int) x18_2 = some r) ∧ Aside0 (kq ≤ kj2) ∧ Aside0 (Kd.R (Kd.int .i64) 3 w' w.heap.size (fun _ => True) v5 x5_2) ∧ Aside0 (Below w.heap.size w w'))
   case atStart => exact ⟨(([] : List Int)), (0), (by first | rfl | (simp; done) | exact congrArg Value.bool (nemp _) | exact congrArg Value.bool (emp _) | (simp [*]; done)), H', ⟨Nat.le_refl _⟩, ⟨by first | exact Kd.R_nil _ _ _ _ _ | exact Kd.N_nil _ _ _ _ _ | exact Kd.V_nil _ _ _ _ _ | exact Kd.Q_nil _ _ _ _ _ | exact Kd.S_nil _ _ _ _ _⟩, ⟨by repeat (first | (with_reducible first | exact HB.out | apply below_alloc | apply pw_below_drewN | apply below_drew1) | exact HB.out)⟩⟩
   case round =>
    clear H'
    try clear c2
    try clear p2
    try clear c4
    try clear c4b0
    try clear c5
    try clear p2
    obtain ⟨x5_2, x18_2, rfl, HA, HK2, HO_5, HB⟩ := hrel
    cases gk with
    | zero => exact absurd HA.out (by simp [tree_Kids.l0])
    | succ k2 =>
     have H := HA.out
     clear HA
     simp only [tree_Kids.l0] at H
     by_cases c6 : x18_2 < (l0.length : Int)
     ·rw [if_pos c6] at H
      have c6b0 : decide (x18_2 < (l0.length : Int)) = true := decide_eq_true c6
      clear c6
      by_cases c7 : 0 ≤ x18_2
      ·rw [if_pos c7] at H
       have c7b0 : decide (0 ≤ x18_2) = true := decide_eq_true c7
       clear c7
       by_cases c8 : x18_2 < (l0.length : Int)
       ·rw [if_pos c8] at H
        have c8b0 : decide (x18_2 < (l0.length : Int)) = true := decide_eq_true c8
        clear c8
        by_cases c9 : ((rd_T32 l0 x18_2).f0) = a1
        ·rw [if_pos c9] at H
         have c9b0 : (((rd_T32 l0 x18_2).f0) == a1) = true := beq_iff_eq.mpr c9
         have c9b1 : (((rd_T32 l0 x18_2).f0) != a1) = false := bne_eq_false_iff_eq.mpr c9
         clear c9
         by_cases c10 : x5_2.length < 17592186044416
         ·rw [if_pos c10] at H
          have LMc10 := Aside0.mk c10
          clear c10
          obtain ⟨y150, hy150⟩ : ∃ y_ : List Int, y_ = (x5_2 ++ [x18_2]) := ⟨_, rfl⟩
          replace H : (tree_Kids.l0 k2 a1 y150 l0 (l0.length : Int) (wrap64 (x18_2 + 1))) = some r := by first | (rw [hy150]; with_reducible exact H) | (have H2_ := (Option.bind_some _ _).symm.trans H; rw [hy150]; with_reducible exact H2_) | (have H2_ := (Option.bind_some _ _).symm.trans H; with_reducible exact H2_) | with_reducible exact H | (rw [hy150]; exact H) | exact H
          have Ny150 := Aside0.mk hy150
          clear hy150
          have H' := Aside0.mk H
          clear H
          have p148 : 0 ≤ (x18_2 : Int) := of_decide_eq_true (by first | (with_reducible assumption) | assumption)
          have q148 : x18_2 < (l0.length : Int) := of_decide_eq_true (by first | (with_reducible assumption) | assumption)
          obtain ⟨ad148, A148_4, c148_4, e148, hx148_0, hx148_1, hx148_2, hx148_3, hx148_4, hx148_5, hl148_4, hi148_4⟩ := at_T32 HR0.out x18_2 p148 q148
          cases e148
          replace hx148_0 := (HB.out.cell (World.block_lt_of_cell? w _ hx148_0)).trans hx148_0
          replace hx148_1 := (HB.out.cell (World.block_lt_of_cell? w _ hx148_1)).trans hx148_1
          replace hx148_2 := (HB.out.cell (World.block_lt_of_cell? w _ hx148_2)).trans hx148_2
          replace hx148_3 := (HB.out.cell (World.block_lt_of_cell? w _ hx148_3)).trans hx148_3
          replace hx148_4 := (HB.out.cell (World.block_lt_of_cell? w _ hx148_4)).trans hx148_4
          replace hx148_5 := (HB.out.cell (World.block_lt_of_cell? w _ hx148_5)).trans hx148_5
          have HR148_4 := Aside0.mk hi148_4
          have HC148_4 := Aside0.mk hl148_4
          clear hi148_4 hl148_4
          replace p148 := eq_true p148
          replace q148 := eq_true q148
          go_wp2_with (first | ((with_reducible refine gate_dst (N := 7) rfl ?_); (try (refine gate_guard (by rfl) ?_; dsimp only)); refine box_event ?hg (N := 7) ?hd (cs := #[.int .i64 0, .int .i64 0, .string (⟨#[]⟩ : ByteArray), .string (⟨#[]⟩ : ByteArray), .slice none 0 0, .string (⟨#[]⟩ : ByteArray)]) (t := 32) ?hr ?_; (case hd => rfl); (case hg => rfl); (case hr => first | (go_simp; done) | (go_simp; rfl)); intro gb149 hg w11 hbox hb; have n0_ := Aside0.mk (Kd.R_below (by (with_reducible repeat (first | apply Kd.R_alloc | apply Kd.R_drewN | apply Kd.R_drew)); exact HO_5.out) hb); have n1_ := Aside0.mk (below_step (by repeat (first | (with_reducible first | exact HB.out | apply below_alloc | apply pw_below_drewN | apply below_drew1) | exact HB.out)) hb); have n2_ := Aside0.mk (hbox); have n3_ := Aside0.mk ((by rw [hg]; exact (below_size (by repeat (first | (with_reducible first | exact HB.out | apply below_alloc | apply pw_below_drewN | apply below_drew1) | exact HB.out))) : w.heap.size ≤ gb149)); have n4_ := Aside0.mk ((by rw [hg]; exact (below_size (by repeat (first | (with_reducible first | exact HB.out | apply below_alloc | apply pw_below_drewN | apply below_drew1) | exact HB.out))) : w.heap.size ≤ gb149)); clear HO_5; clear HB; have HO_5 := n0_; have HB := n1_; have BK149 := n2_; have GW149 := n3_; have GE149 := n4_; clear n0_ n1_ n2_ n3_ n4_; clear hb hbox hg; have hcz12_0 : w11.cell? ⟨gb149, 0, none⟩ = some (.int .i64 0) := (blk_cell BK149.out 0).trans rfl; have hcz12_1 : w11.cell? ⟨gb149, 1, none⟩ = some (.int .i64 0) := (blk_cell BK149.out 1).trans rfl; have hcz12_2 : w11.cell? ⟨gb149, 2, none⟩ = some (.string (⟨#[]⟩ : ByteArray)) := (blk_cell BK149.out 2).trans rfl; have hcz12_3 : w11.cell? ⟨gb149, 3, none⟩ = some (.string (⟨#[]⟩ : ByteArray)) := (blk_cell BK149.out 3).trans rfl; have hcz12_4 : w11.cell? ⟨gb149, 4, none⟩ = some (.slice none 0 0) := (blk_cell BK149.out 4).trans rfl; have hcz12_5 : w11.cell? ⟨gb149, 5, none⟩ = some (.string (⟨#[]⟩ : ByteArray)) := (blk_cell BK149.out 5).trans rfl; have hfz12_0 := blk_frozen BK149.out 0; have hfz12_1 := blk_frozen BK149.out 1; have hfz12_2 := blk_frozen BK149.out 2; have hfz12_3 := blk_frozen BK149.out 3; have hfz12_4 := blk_frozen BK149.out 4; have hfz12_5 := blk_frozen BK149.out 5) | ((with_reducible refine gate_builtin (b := .append) (xs := #[.tmp 27, .tmp 29]) rfl ?_); (try (refine gate_guard (by rfl) ?_; dsimp only)); at_builtin; refine Kd.R_append (Kd.int .i64) (w0 := w) w.heap.size rfl (.tmp 27) (.tmp 29) 36 3 (.int .i64 0) 8 rfl Tryd.underlying36 info3 rfl (by decide) (by omega) u5 x5_2 x18_2 [.int .i64 x18_2] (fun _ => True) (fun _ => False) rfl (by first | (go_simp; done) | (go_simp; rfl)) ?aP (fun _ hk => hk.elim) ?aF ?aO ?aB ?aS ?aL ?_; (case aP => exact rfl); (case aB => exact (by repeat (first | (with_reducible first | exact HB.out | apply below_alloc | apply pw_below_drewN | apply below_drew1 | refine below_set ?_ GE149.out) | exact HB.out))); (case aF => exact (fun _ _ => trivial)); (case aO => exact (by (with_reducible repeat (first | apply Kd.R_alloc | apply Kd.R_drewN | apply Kd.R_drew)); exact Kd.R_mono (Kd.R_far (p := ⟨gb149, 5, none⟩) (Kd.R_far (p := ⟨gb149, 4, none⟩) (Kd.R_far (p := ⟨gb149, 3, none⟩) (Kd.R_far (p := ⟨gb149, 2, none⟩) (Kd.R_far (p := ⟨gb149, 1, none⟩) (Kd.R_far (p := ⟨gb149, 0, none⟩) (Kd.R_types HO_5.out BK149.out (by decide)) (fun _ hk => hk.2) (.int .i64 ((rd_T32 l0 x18_2).f0))) (fun _ hk => hk.2) (.int .i64 ((rd_T32 l0 x18_2).f1))) (fun _ hk => hk.2) (.string ((rd_T32 l0 x18_2).f2))) (fun _ hk => hk.2) (.string ((rd_T32 l0 x18_2).f3))) (fun _ hk => hk.2) (.slice A148_4 ((rd_T32 l0 x18_2).f4).length c148_4)) (fun _ hk => hk.2) (.string ((rd_T32 l0 x18_2).f5))) (fun _ hk => trivial))); (case aS => exact (below_size (by repeat (first | (with_reducible first | exact HB.out | apply below_alloc | apply pw_below_drewN | apply below_drew1 | refine below_set ?_ GE149.out) | exact HB.out)))); (case aL => have := LMc10.out; omega); intro v151 w13 ho hb hg hat; rw [← Ny150.out] at ho; have n0_ := Aside0.mk (blk_grown (g := gb149) (o := .cells #[.int .i64 ((rd_T32 l0 x18_2).f0), .int .i64 ((rd_T32 l0 x18_2).f1), .string ((rd_T32 l0 x18_2).f2), .string ((rd_T32 l0 x18_2).f3), .slice A148_4 ((rd_T32 l0 x18_2).f4).length c148_4, .string ((rd_T32 l0 x18_2).f5)] 32 (0, 0)) (by (with_reducible repeat (first | refine blk_drewN ?_ _ | refine blk_drew ?_ | refine blk_alloc ?_ _)); refine blk_put (cs := #[.int .i64 ((rd_T32 l0 x18_2).f0), .int .i64 ((rd_T32 l0 x18_2).f1), .string ((rd_T32 l0 x18_2).f2), .string ((rd_T32 l0 x18_2).f3), .slice A148_4 ((rd_T32 l0 x18_2).f4).length c148_4, .string (⟨#[]⟩ : ByteArray)]) ?_ 5 _ rfl; (with_reducible repeat (first | refine blk_drewN ?_ _ | refine blk_drew ?_ | refine blk_alloc ?_ _)); refine blk_put (cs := #[.int .i64 ((rd_T32 l0 x18_2).f0), .int .i64 ((rd_T32 l0 x18_2).f1), .string ((rd_T32 l0 x18_2).f2), .string ((rd_T32 l0 x18_2).f3), .slice none 0 0, .string (⟨#[]⟩ : ByteArray)]) ?_ 4 _ rfl; (with_reducible repeat (first | refine blk_drewN ?_ _ | refine blk_drew ?_ | refine blk_alloc ?_ _)); refine blk_put (cs := #[.int .i64 ((rd_T32 l0 x18_2).f0), .int .i64 ((rd_T32 l0 x18_2).f1), .string ((rd_T32 l0 x18_2).f2), .string (⟨#[]⟩ : ByteArray), .slice none 0 0, .string (⟨#[]⟩ : ByteArray)]) ?_ 3 _ rfl; (with_reducible repeat (first | refine blk_drewN ?_ _ | refine blk_drew ?_ | refine blk_alloc ?_ _)); refine blk_put (cs := #[.int .i64 ((rd_T32 l0 x18_2).f0), .int .i64 ((rd_T32 l0 x18_2).f1), .string (⟨#[]⟩ : ByteArray), .string (⟨#[]⟩ : ByteArray), .slice none 0 0, .string (⟨#[]⟩ : ByteArray)]) ?_ 2 _ rfl; (with_reducible repeat (first | refine blk_drewN ?_ _ | refine blk_drew ?_ | refine blk_alloc ?_ _)); refine blk_put (cs := #[.int .i64 ((rd_T32 l0 x18_2).f0), .int .i64 0, .string (⟨#[]⟩ : ByteArray), .string (⟨#[]⟩ : ByteArray), .slice none 0 0, .string (⟨#[]⟩ : ByteArray)]) ?_ 1 _ rfl; (with_reducible repeat (first | refine blk_drewN ?_ _ | refine blk_drew ?_ | refine blk_alloc ?_ _)); refine blk_put (cs := #[.int .i64 0, .int .i64 0, .string (⟨#[]⟩ : ByteArray), .string (⟨#[]⟩ : ByteArray), .slice none 0 0, .string (⟨#[]⟩ : ByteArray)]) ?_ 0 _ rfl; (with_reducible repeat (first | refine blk_drewN ?_ _ | refine blk_drew ?_ | refine blk_alloc ?_ _)); exact BK149.out) hg (Kd.R_ne HO_5.out BK149.out (by decide))); have n1_ := Aside0.mk (hb); have n2_ := Aside0.mk (ho); clear BK149; clear HB; clear HO_5; have BK149 := n0_; have HB := n1_; have HO152 := n2_; clear n0_ n1_ n2_; clear ho hb hg hat))
          go_roundg k2
          case measure => have := HJ2.out; have := HK2.out; omega
          case rel => exact ⟨(y150), (wrap64 (x18_2 + 1)), (by first | rfl | (simp; done) | exact congrArg Value.bool (nemp _) | exact congrArg Value.bool (emp _) | (simp [*]; done)), H', ⟨by have := HJ2.out; have := HK2.out; omega⟩, ⟨by (with_reducible repeat (first | apply Kd.R_alloc | apply Kd.R_drewN | apply Kd.R_drew)); exact HO152.out⟩, ⟨by repeat (first | (with_reducible first | exact HB.out | apply below_alloc | apply pw_below_drewN | apply below_drew1 | refine below_set ?_ GE149.out) | exact HB.out)⟩⟩
         rw [if_neg c10] at H
         exact absurd H (by simp)
        rw [if_neg c9] at H
        have c9b0 : (((rd_T32 l0 x18_2).f0) == a1) = false := beq_eq_false_iff_ne.mpr c9
        have c9b1 : (((rd_T32 l0 x18_2).f0) != a1) = true := bne_iff_ne.mpr c9
        have H' := Aside0.mk H
        clear H
        have p148 : 0 ≤ (x18_2 : Int) := of_decide_eq_true (by first | (with_reducible assumption) | assumption)
        have q148 : x18_2 < (l0.length : Int) := of_decide_eq_true (by first | (with_reducible assumption) | assumption)
        obtain ⟨ad148, A148_4, c148_4, e148, hx148_0, hx148_1, hx148_2, hx148_3, hx148_4, hx148_5, hl148_4, hi148_4⟩ := at_T32 HR0.out x18_2 p148 q148
        cases e148
        replace hx148_0 := (HB.out.cell (World.block_lt_of_cell? w _ hx148_0)).trans hx148_0
        replace hx148_1 := (HB.out.cell (World.block_lt_of_cell? w _ hx148_1)).trans hx148_1
        replace hx148_2 := (HB.out.cell (World.block_lt_of_cell? w _ hx148_2)).trans hx148_2
        replace hx148_3 := (HB.out.cell (World.block_lt_of_cell? w _ hx148_3)).trans hx148_3
        replace hx148_4 := (HB.out.cell (World.block_lt_of_cell? w _ hx148_4)).trans hx148_4
        replace hx148_5 := (HB.out.cell (World.block_lt_of_cell? w _ hx148_5)).trans hx148_5
        have HR148_4 := Aside0.mk hi148_4
        have HC148_4 := Aside0.mk hl148_4
        clear hi148_4 hl148_4
        replace p148 := eq_true p148
        replace q148 := eq_true q148
        go_wp2_with (first | ((with_reducible refine gate_dst (N := 7) rfl ?_); (try (refine gate_guard (by rfl) ?_; dsimp only)); refine box_event ?hg (N := 7) ?hd (cs := #[.int .i64 0, .int .i64 0, .string (⟨#[]⟩ : ByteArray), .string (⟨#[]⟩ : ByteArray), .slice none 0 0, .string (⟨#[]⟩ : ByteArray)]) (t := 32) ?hr ?_; (case hd => rfl); (case hg => rfl); (case hr => first | (go_simp; done) | (go_simp; rfl)); intro gb149 hg w14 hbox hb; have n0_ := Aside0.mk (Kd.R_below (by (with_reducible repeat (first | apply Kd.R_alloc | apply Kd.R_drewN | apply Kd.R_drew)); exact HO_5.out) hb); have n1_ := Aside0.mk (below_step (by repeat (first | (with_reducible first | exact HB.out | apply below_alloc | apply pw_below_drewN | apply below_drew1) | exact HB.out)) hb); have n2_ := Aside0.mk (hbox); have n3_ := Aside0.mk ((by rw [hg]; exact (below_size (by repeat (first | (with_reducible first | exact HB.out | apply below_alloc | apply pw_below_drewN | apply below_drew1) | exact HB.out))) : w.heap.size ≤ gb149)); have n4_ := Aside0.mk ((by rw [hg]; exact (below_size (by repeat (first | (with_reducible first | exact HB.out | apply below_alloc | apply pw_below_drewN | apply below_drew1) | exact HB.out))) : w.heap.size ≤ gb149)); clear HO_5; clear HB; have HO_5 := n0_; have HB := n1_; have BK149 := n2_; have GW149 := n3_; have GE149 := n4_; clear n0_ n1_ n2_ n3_ n4_; clear hb hbox hg; have hcz15_0 : w14.cell? ⟨gb149, 0, none⟩ = some (.int .i64 0) := (blk_cell BK149.out 0).trans rfl; have hcz15_1 : w14.cell? ⟨gb149, 1, none⟩ = some (.int .i64 0) := (blk_cell BK149.out 1).trans rfl; have hcz15_2 : w14.cell? ⟨gb149, 2, none⟩ = some (.string (⟨#[]⟩ : ByteArray)) := (blk_cell BK149.out 2).trans rfl; have hcz15_3 : w14.cell? ⟨gb149, 3, none⟩ = some (.string (⟨#[]⟩ : ByteArray)) := (blk_cell BK149.out 3).trans rfl; have hcz15_4 : w14.cell? ⟨gb149, 4, none⟩ = some (.slice none 0 0) := (blk_cell BK149.out 4).trans rfl; have hcz15_5 : w14.cell? ⟨gb149, 5, none⟩ = some (.string (⟨#[]⟩ : ByteArray)) := (blk_cell BK149.out 5).trans rfl; have hfz15_0 := blk_frozen BK149.out 0; have hfz15_1 := blk_frozen BK149.out 1; have hfz15_2 := blk_frozen BK149.out 2; have hfz15_3 := blk_frozen BK149.out 3; have hfz15_4 := blk_frozen BK149.out 4; have hfz15_5 := blk_frozen BK149.out 5))
        go_roundg k2
        case measure => have := HJ2.out; have := HK2.out; omega
        case rel => exact ⟨(x5_2), (wrap64 (x18_2 + 1)), (by first | rfl | (simp; done) | exact congrArg Value.bool (nemp _) | exact congrArg Value.bool (emp _) | (simp [*]; done)), H', ⟨by have := HJ2.out; have := HK2.out; omega⟩, ⟨by (with_reducible repeat (first | apply Kd.R_alloc | apply Kd.R_drewN | apply Kd.R_drew)); exact Kd.R_mono (Kd.R_far (p := ⟨gb149, 5, none⟩) (Kd.R_far (p := ⟨gb149, 4, none⟩) (Kd.R_far (p := ⟨gb149, 3, none⟩) (Kd.R_far (p := ⟨gb149, 2, none⟩) (Kd.R_far (p := ⟨gb149, 1, none⟩) (Kd.R_far (p := ⟨gb149, 0, none⟩) (Kd.R_types HO_5.out BK149.out (by decide)) (fun _ hk => hk.2) (.int .i64 ((rd_T32 l0 x18_2).f0))) (fun _ hk => hk.2) (.int .i64 ((rd_T32 l0 x18_2).f1))) (fun _ hk => hk.2) (.string ((rd_T32 l0 x18_2).f2))) (fun _ hk => hk.2) (.string ((rd_T32 l0 x18_2).f3))) (fun _ hk => hk.2) (.slice A148_4 ((rd_T32 l0 x18_2).f4).length c148_4)) (fun _ hk => hk.2) (.string ((rd_T32 l0 x18_2).f5))) (fun _ hk => trivial)⟩, ⟨by repeat (first | (with_reducible first | exact HB.out | apply below_alloc | apply pw_below_drewN | apply below_drew1 | refine below_set ?_ GE149.out) | exact HB.out)⟩⟩
       rw [if_neg c8] at H
       exact absurd H (by simp)
      rw [if_neg c7] at H
      exact absurd H (by simp)
     rw [if_neg c6] at H
     have c6b0 : decide (x18_2 < (l0.length : Int)) = false := decide_eq_false c6
     clear c6
     obtain rfl := Option.some.inj H
     go_wp2
     go_ret
     exact ⟨_, by first | rfl | (simp only [nemp]; rfl) | (simp [errW_none, errW_some] <;> rfl) | (simp [*, errW_none, errW_some] <;> rfl), by (with_reducible repeat (first | apply Kd.R_alloc | apply Kd.R_drewN | apply Kd.R_drew)); exact HO_5.out, by repeat (first | (with_reducible first | exact HB.out | apply below_alloc | apply pw_below_drewN | apply below_drew1) | exact HB.out)⟩
def kidsT (f : Int → Option ByteArray) : List Int → Option ByteArray
 | [] => some ⟨#[]⟩
 | j :: r => (f j).bind fun a => (kidsT f r).bind fun b => some (a ++ b)
set_option maxHeartbeats 4000000 in
set_option maxRecDepth 100000 in
theorem canon_all_int.hof (g : Nat) (S : Value) (A1 : Option Addr) (c1 : Nat) (ks : List Int) (out t : ByteArray) (f : Int → Option ByteArray) (w0 w : World) (hr0 : ∀ W, FKp w0.heap.size g w W → Kd.C (Kd.int .i64) W A1 ks.length ks) (hl0 : ks.length ≤ 9223372036854775807) (hb0 : Below w0.heap.size w0 w) (h : FileB w w0.heap.size g S (Lib.strCells out)) (ht : kidsT f ks = some t) (hz : (out ++ t).size + 10 ≤ 1000000000000)
  (hc : ∀ (j : Int) (o a : ByteArray) (W : World), f j = some a → (o ++ a).size + 10 ≤ 1000000000000 → Below w0.heap.size w0 W → FileB W w0.heap.size g S (Lib.strCells o) → Calls Tryd.prog 14 #[.pointer (some ⟨g, 0, none⟩), .int .i64 j] W fun e W' => e = .returned (.tuple #[]) ∧ FileB W' w0.heap.size g S (Lib.strCells (o ++ a)) ∧ FKp w0.heap.size g W W') :
  Calls Tryd.prog 27 #[.pointer (some ⟨g, 0, none⟩), .slice A1 ks.length c1, .func (.func 14) #[] #[]] w fun e w' => e = .returned (.tuple #[]) ∧ FileB w' w0.heap.size g S (Lib.strCells (out ++ t)) ∧ FKp w0.heap.size g w w' := by
 have hF : IsFn Tryd.prog 14 := ⟨⟨_, Tryd.func14, by kernel_rfl, rfl⟩⟩
 have HR := Aside0.mk hr0
 have HB0 := Aside0.mk hb0
 have HF0 := Aside0.mk h
 have HZ := Aside0.mk hz
 have HT := Aside0.mk ht
 have HC := Aside0.mk hc
 clear hr0 hb0 h hz ht hc
 go_enter Tryd.func27, Tryd.ntmps27
 go_wp2
 go_loopg [7, 10] (ks.length + 1) (fun gk v7 v10 wr => ∃ (i : Nat) (o u : ByteArray), i ≤ ks.length ∧ v10 = .int .i64 i ∧ ks.length < gk + i ∧ Aside0 (kidsT f (ks.drop i) = some u) ∧ Aside0 (o ++ u = out ++ t) ∧ Aside0 (FileB wr w0.heap.size g S (Lib.strCells o)) ∧ Aside0 (FKp w0.heap.size g w wr))
 case atStart => exact ⟨0, out, t, Nat.zero_le _, rfl, by omega, HT, ⟨rfl⟩, HF0, ⟨FKp.refl _ _ _⟩⟩
 case round =>
  clear HF0
  obtain ⟨i, o, u, hi, rfl, hk, HU, HO, HF1, HK⟩ := hrel
  by_cases hlt : i < ks.length
  ·obtain ⟨k', rfl⟩ : ∃ k', gk = k' + 1 := ⟨gk - 1, by omega⟩
   have hltz : (i : Int) < (ks.length : Int) := by omega
   have HBr := Aside0.mk (HB0.out.trans HK.out.1)
   obtain ⟨ad, e1, hx⟩ := Kd.at_int (HR.out _ HK.out) (i : Int) (by omega) (by omega)
   cases e1
   rw [Int.toNat_natCast] at hx
   have hu := HU.out
   rw [List.drop_eq_getElem_cons hlt] at hu
   have hrd : rd ks (i : Int) = ks[i] := rd_get ks i hlt
   rw [hrd] at hx
   clear hrd
   obtain ⟨x, hxx⟩ : ∃ x, ks[i] = x := ⟨_, rfl⟩
   rw [hxx] at hx hu
   clear hxx HU
   unfold kidsT at hu
   obtain ⟨a, ha, hu⟩ := Option.bind_eq_some_iff.1 hu
   obtain ⟨b, hb, hu⟩ := Option.bind_eq_some_iff.1 hu
   obtain rfl := Option.some.inj hu
   have HA := Aside0.mk ha
   have HBb := Aside0.mk hb
   have HS := Aside0.mk (show (o ++ a).size + 10 ≤ 1000000000000 from by
    have h1 := HZ.out
    rw [← HO.out] at h1
    simp only [ByteArray.size_append] at h1 ⊢
    omega)
   clear ha hb hu
   go_wp2_with (first | ((with_reducible refine gate_value rfl ?_); refine goesV (some 17) rfl rfl rfl rfl hF #[.pointer (some ⟨g, 0, none⟩), .int .i64 x] (by simp only [List.map_toArray, List.map_cons, List.map_nil]; rfl) ?_; refine (HC.out x o a _ HA.out HS.out HBr.out HF1.out).mono ?_; rintro e w4 ⟨rfl, hF4, hb4⟩; refine ⟨_, rfl, ?_⟩; have HF4 := Aside0.mk hF4; have HB4 := Aside0.mk (FKp.trans HK.out hb4); clear hF4 hb4))
   go_roundg k'
   case measure => omega
   case rel => exact ⟨i + 1, o ++ a, b, by omega, by go_num, by omega, HBb, ⟨by rw [ByteArray.append_assoc]; exact HO.out⟩, HF4, HB4⟩
  have : i = ks.length := by omega
  subst this
  go_wp2
  go_end0
  have hu := HU.out
  rw [List.drop_length] at hu
  obtain rfl := Option.some.inj hu
  have ho := HO.out
  rw [show o ++ (⟨#[]⟩ : ByteArray) = o from ByteArray.append_empty] at ho
  exact ⟨rfl, by rw [← ho]; exact HF1.out, HK.out⟩
def aboveT (l : List S32) (i : Int) : Option ByteArray :=
 if 0 < i then (if 0 ≤ (rd_T32 l i).f0 ∧ (rd_T32 l i).f0 < (l.length : Int) then some (rd_T32 l (rd_T32 l i).f0).f3 else none) else some ⟨#[]⟩
def spaceT : ByteArray := ⟨#[120, 109, 108, 110, 115]⟩
def headT (out : ByteArray) (x : S32) (ab : ByteArray) : ByteArray :=
 attrsO (if x.f3.toList = ab.toList then out ++ ((⟨#[60]⟩ : ByteArray) ++ x.f2) else (out ++ ((⟨#[60]⟩ : ByteArray) ++ x.f2)) ++ attrT spaceT (escT x.f3)) x.f4
def tailT (x : S32) : ByteArray := ((⟨#[60, 47]⟩ : ByteArray) ++ x.f2) ++ (⟨#[62]⟩ : ByteArray)
def nodeT : Nat → List S32 → Int → Option ByteArray
 | 0, _, _ => none
 | k + 1, l, i => if 0 ≤ i ∧ i < (l.length : Int) then (aboveT l i).bind fun ab => (tree_Kids.f k l i).bind fun ks =>
   if (rd_T32 l i).f5.toList = [] ∧ ks = [] then some (headT ⟨#[]⟩ (rd_T32 l i) ab ++ (⟨#[47, 62]⟩ : ByteArray))
   else (kidsT (nodeT k l) ks).bind fun kt => some (((headT ⟨#[]⟩ (rd_T32 l i) ab ++ ((⟨#[62]⟩ : ByteArray) ++ escT (rd_T32 l i).f5)) ++ kt) ++ tailT (rd_T32 l i))
  else none
theorem attrsO_shift (a : ByteArray) : ∀ (l : List S29) (out : ByteArray), attrsO (a ++ out) l = a ++ attrsO out l
 | [], out => rfl
 | x :: r, out => by
  show attrsO ((a ++ out) ++ attrT x.f0 (escT x.f1)) r = a ++ attrsO (out ++ attrT x.f0 (escT x.f1)) r
  rw [ByteArray.append_assoc, attrsO_shift a r]
theorem headT_shift (out : ByteArray) (x : S32) (ab : ByteArray) : headT out x ab = out ++ headT ⟨#[]⟩ x ab := by
 have e : ∀ y : ByteArray, (⟨#[]⟩ : ByteArray) ++ y = y := fun y => ByteArray.empty_append
 unfold headT
 split
 ·rw [e, attrsO_shift]
 rw [e, ByteArray.append_assoc, attrsO_shift]
theorem FKp.ints {B g base : Nat} {w w' : World} {v p S : Value} {bs : List Value} {xs : List Int} (hF : FileAt w B g p S bs) (h : FKp B g w w') (hR : Kd.R (Kd.int .i64) 3 w base (fun _ => True) v xs) : Kd.R (Kd.int .i64) 3 w' base (fun _ => True) v xs := by
 obtain ⟨h0, inner, ho, hr⟩ := hR
 refine ⟨fun _ _ => trivial, inner, own_move ho (fun k hk => ?_), hr⟩
 obtain ⟨cells, hc⟩ := own_typed ho k hk
 obtain ⟨_, v2, h2, _⟩ := hF
 exact (h.blk hc (fun e => blk_ne h2 (e ▸ hc) (by decide) rfl) (by decide)).trans hc.symm
theorem noKids {x : ByteArray} (ks : List Int) (he : x.toList = []) : (((ks.length : Nat) : Int) == 0) = decide (x.toList = [] ∧ ks = []) := by
 cases ks with
 | nil => rw [decide_eq_true ⟨he, rfl⟩]; rfl
 | cons a r => rw [decide_eq_false (fun h => by cases h.2)]; exact beq_eq_false_iff_ne.mpr (by simp only [List.length_cons]; omega)
theorem FKp.intsB {B g base : Nat} {w w' : World} {v S : Value} {bs : List Value} {xs : List Int} (hF : FileB w B g S bs) (h : FKp B g w w') (hR : Kd.R (Kd.int .i64) 3 w base (fun _ => True) v xs) : Kd.R (Kd.int .i64) 3 w' base (fun _ => True) v xs := by
 obtain ⟨p, hp⟩ := hF.at
 exact FKp.ints hp h hR
set_option maxHeartbeats 4000000 in
set_option maxRecDepth 100000 in
theorem canon_node.hof (g : Nat) (A0 : Option Addr) (c0 : Nat) (l0 : List S32) (w0 : World) (hr0 : Kd.C k32 w0 A0 l0.length l0) (hl0 : l0.length ≤ c0) (hl1 : l0.length ≤ 1000000) : ∀ (k : Nat) (i : Int) (out t : ByteArray) (w : World) (hb0 : Below w0.heap.size w0 w) (h : FileB w w0.heap.size g (.slice A0 l0.length c0) (Lib.strCells out)) (ht : nodeT k l0 i = some t) (hz : (out ++ t).size + 10 ≤ 1000000000000),
  Calls Tryd.prog 14 #[.pointer (some ⟨g, 0, none⟩), .int .i64 i] w fun e w' => e = .returned (.tuple #[]) ∧ FileB w' w0.heap.size g (.slice A0 l0.length c0) (Lib.strCells (out ++ t)) ∧ FKp w0.heap.size g w w' := by
 intro k
 induction k with
 | zero => intro i out t w hb0 h ht hz; exact absurd ht (by simp [nodeT])
 | succ k ih =>
 intro i out t w hb0 h ht hz
 unfold nodeT at ht
 have hi : 0 ≤ i ∧ i < (l0.length : Int) := Decidable.byContradiction fun hn => by rw [if_neg hn] at ht; cases ht
 rw [if_pos hi] at ht
 obtain ⟨ab, hab, ht⟩ := Option.bind_eq_some_iff.1 ht
 obtain ⟨ks, hks, ht⟩ := Option.bind_eq_some_iff.1 ht
 have hu1 := Tryd.underlying32
 have hu2 := Tryd.underlying46
 have hu3 := Tryd.underlying29
 have IH := Aside0.mk ih
 have HR := Aside0.mk hr0
 have HB0 := Aside0.mk hb0
 have HF0 := Aside0.mk h
 have HZ := Aside0.mk hz
 have HT := Aside0.mk ht
 have HAB := Aside0.mk hab
 have HKS := Aside0.mk hks
 have HL := Aside0.mk hl0
 have HL1 := Aside0.mk hl1
 obtain ⟨hi0, hi1⟩ := hi
 have hcS : w.cell? ⟨g, 2, none⟩ = some (.slice A0 l0.length c0) := h.cell2
 obtain ⟨ad, A4, c4, e1, hx0, hx1, hx2, hx3, hx4, hx5, hl4, hi4⟩ := at_T32 hr0 i hi0 hi1
 cases e1
 replace hx0 := (hb0.cell (World.block_lt_of_cell? _ _ hx0)).trans hx0
 replace hx1 := (hb0.cell (World.block_lt_of_cell? _ _ hx1)).trans hx1
 replace hx2 := (hb0.cell (World.block_lt_of_cell? _ _ hx2)).trans hx2
 replace hx3 := (hb0.cell (World.block_lt_of_cell? _ _ hx3)).trans hx3
 replace hx4 := (hb0.cell (World.block_lt_of_cell? _ _ hx4)).trans hx4
 replace hx5 := (hb0.cell (World.block_lt_of_cell? _ _ hx5)).trans hx5
 obtain ⟨x, hxx⟩ : ∃ x, rd_T32 l0 i = x := ⟨_, rfl⟩
 rw [hxx] at hx0 hx1 hx2 hx3 hx4 hx5 hl4 hi4
 have HX := Aside0.mk hxx
 have HR4 := Aside0.mk hi4
 have HC4 := Aside0.mk hl4
 have hgs : g < w.heap.size := by obtain ⟨_, _, _, h2, _⟩ := h.at; exact blk_lt h2
 have HGS := Aside0.mk hgs
 clear ih hr0 hb0 h hz ht hab hks hl0 hl1 hxx hi4 hl4 hgs
 go_enter Tryd.func14, Tryd.ntmps14
 go_upto_if 15 with (first | ((with_reducible refine gate_dst (N := 4) rfl ?_); refine box_event ?hg (N := 4) ?hd (cs := #[.int .i64 0, .int .i64 0, .string (⟨#[]⟩ : ByteArray), .string (⟨#[]⟩ : ByteArray), .slice none 0 0, .string (⟨#[]⟩ : ByteArray)]) (t := 32) ?hr ?_; (case hd => rfl); (case hg => rfl); (case hr => first | (go_simp; done) | (go_simp; rfl)); intro ga hga w1 hbox1 hb1; have HA := Aside0.mk hbox1; have HB1 := Aside0.mk hb1; have HG := Aside0.mk (show w.heap.size ≤ ga from Nat.le_of_eq hga.symm); clear hga hbox1 hb1; have hc0 : w1.cell? ⟨ga, 0, none⟩ = some (.int .i64 0) := (blk_cell HA.out 0).trans rfl; have hc1 : w1.cell? ⟨ga, 1, none⟩ = some (.int .i64 0) := (blk_cell HA.out 1).trans rfl; have hc2 : w1.cell? ⟨ga, 2, none⟩ = some (.string (⟨#[]⟩ : ByteArray)) := (blk_cell HA.out 2).trans rfl; have hc3 : w1.cell? ⟨ga, 3, none⟩ = some (.string (⟨#[]⟩ : ByteArray)) := (blk_cell HA.out 3).trans rfl; have hc4 : w1.cell? ⟨ga, 4, none⟩ = some (.slice none 0 0) := (blk_cell HA.out 4).trans rfl; have hc5 : w1.cell? ⟨ga, 5, none⟩ = some (.string (⟨#[]⟩ : ByteArray)) := (blk_cell HA.out 5).trans rfl; have hf0 := blk_frozen HA.out 0; have hf1 := blk_frozen HA.out 1; have hf2 := blk_frozen HA.out 2; have hf3 := blk_frozen HA.out 3; have hf4 := blk_frozen HA.out 4; have hf5 := blk_frozen HA.out 5))
 (try simp only [Act.put, setIfInBounds_toArray, set_cons_zero, set_cons_succ])
 generalize hW : World.setCell _ _ _ = W
 have HAW := Aside0.mk (show W.heap[ga]? = some (.cells #[.int .i64 x.f0, .int .i64 x.f1, .string x.f2, .string x.f3, .slice A4 x.f4.length c4, .string x.f5] 32 (0, 0)) from by
  rw [← hW]; exact blk_put (blk_put (blk_put (blk_put (blk_put (blk_put HA.out 0 _ rfl) 1 _ rfl) 2 _ rfl) 3 _ rfl) 4 _ rfl) 5 _ rfl)
 have HBW := Aside0.mk (show Below w.heap.size w W from by rw [← hW]; (repeat (refine Below.setCell ?_ HG.out _)); exact HB1.out)
 clear hW hx0 hx1 hx2 hx3 hx4 hx5 hcS hc0 hc1 hc2 hc3 hc4 hc5 hf0 hf1 hf2 hf3 hf4 hf5 HA HB1
 go_cut [5] (fun v5 wc => v5 = .string ab ∧ Aside0 (wc.heap[ga]? = some (.cells #[.int .i64 x.f0, .int .i64 x.f1, .string x.f2, .string x.f3, .slice A4 x.f4.length c4, .string x.f5] 32 (0, 0))) ∧ Aside0 (Below w.heap.size w wc))
 case first =>
  have hab := HAB.out
  unfold aboveT at hab
  rw [HX.out] at hab
  by_cases hp : 0 < i
  ·rw [if_pos hp] at hab
   have hq : 0 ≤ x.f0 ∧ x.f0 < (l0.length : Int) := Decidable.byContradiction fun hn => by rw [if_neg hn] at hab; cases hab
   rw [if_pos hq] at hab
   have hpb : decide (i > 0) = true := decide_eq_true hp
   have hg2 : W.cell? ⟨g, 2, none⟩ = some (.slice (some ad) l0.length c0) := (FileB.below HF0.out HBW.out).cell2
   obtain ⟨adp, B4, d4, e1, hy0, hy1, hy2, hy3, hy4, hy5, _, _⟩ := at_T32 (Kd.C_below HR.out (HB0.out.trans (HBW.out.mono HB0.out.size))) x.f0 hq.1 hq.2
   cases e1
   rw [Option.some.inj hab] at hy3
   clear hy0 hy1 hy2 hy4 hy5 hab
   have q0 : (0 ≤ x.f0) = True := eq_true hq.1
   have q1 : (x.f0 < (l0.length : Int)) = True := eq_true hq.2
   have q2 : decide (0 ≤ x.f0) = true := decide_eq_true hq.1
   have q3 : decide (x.f0 < (l0.length : Int)) = true := decide_eq_true hq.2
   (first | rw [hpb] | skip)
   go_wp2_with fail
   refine start_ (n := 10) (S := fun w' => w'.cell? ⟨g, 2, none⟩ = some (.slice (some ad) l0.length c0) ∧ w'.cell? ⟨ga, 0, none⟩ = some (.int .i64 x.f0) ∧ w'.cell? ⟨(ad.add (x.f0.toNat * 6)).block, (ad.add (x.f0.toNat * 6)).off + 3, none⟩ = some (.string ab)) (ds := []) #[false, false, false, false, false, false, false, false, false, false] (by kernel_rfl) rfl rfl ⟨hg2, (blk_cell HAW.out 0).trans rfl, hy3⟩ (fun hHeld => ?_)
   refine pure_ (i := 0) (N := some 16) (v := ?_) (a' := ?_) #[true, false, false, false, false, false, false, false, false, false] rfl rfl (by kernel_rfl) (fun _ _ _ h => h) (Or.inl ⟨by rfl, ?_⟩) ?_ ?_
   rotate_left
   ·intro w'
    go_simp
    with_reducible rfl
   rotate_left
   ·simp only [Act.put, setIfInBounds_toArray, set_cons_zero, set_cons_succ, i64_w, i32_w]
    rfl
   refine pure_ (i := 1) (N := some 17) (v := ?_) (a' := ?_) #[true, true, false, false, false, false, false, false, false, false] rfl rfl (by kernel_rfl) (fun _ _ _ h => h) (Or.inl ⟨by rfl, ?_⟩) ?_ ?_
   rotate_left
   ·intro w'
    go_simp
    with_reducible rfl
   rotate_left
   ·simp only [Act.put, setIfInBounds_toArray, set_cons_zero, set_cons_succ, i64_w, i32_w]
    rfl
   refine pure_ (i := 2) (N := some 18) (v := ?_) (a' := ?_) #[true, true, true, false, false, false, false, false, false, false] rfl rfl (by kernel_rfl) (fun _ _ _ h => h) (Or.inl ⟨by rfl, ?_⟩) ?_ ?_
   rotate_left
   ·intro w'
    go_simp
    with_reducible rfl
   rotate_left
   ·simp only [Act.put, setIfInBounds_toArray, set_cons_zero, set_cons_succ, i64_w, i32_w]
    rfl
   refine pure_ (i := 4) (N := some 20) (v := ?_) (a' := ?_) #[true, true, true, false, true, false, false, false, false, false] rfl rfl (by kernel_rfl) (fun _ _ _ h => h) (Or.inl ⟨by rfl, ?_⟩) ?_ ?_
   rotate_left
   ·intro w'
    go_simp
    with_reducible rfl
   rotate_left
   ·simp only [Act.put, setIfInBounds_toArray, set_cons_zero, set_cons_succ, i64_w, i32_w]
    rfl
   refine take_ (i := 3) (N := some 19) (v := ?_) (a' := ?_) #[true, true, true, true, true, false, false, false, false, false] rfl rfl (by kernel_rfl) (fun _ _ _ h => h) (Or.inl ⟨by rfl, ?_⟩) hHeld ?_ ?_
   rotate_left
   ·rintro w' ⟨s0, s1, s2⟩
    go_simp
    with_reducible rfl
   rotate_left
   ·simp only [Act.put, setIfInBounds_toArray, set_cons_zero, set_cons_succ, i64_w, i32_w]
    rfl
   refine take_ (i := 5) (N := some 21) (v := ?_) (a' := ?_) #[true, true, true, true, true, true, false, false, false, false] rfl rfl (by kernel_rfl) (fun _ _ _ h => h) (Or.inl ⟨by rfl, ?_⟩) hHeld ?_ ?_
   rotate_left
   ·rintro w' ⟨s0, s1, s2⟩
    go_simp
    with_reducible rfl
   rotate_left
   ·simp only [Act.put, setIfInBounds_toArray, set_cons_zero, set_cons_succ, i64_w, i32_w]
    rfl
   refine pure_ (i := 6) (N := some 22) (v := ?_) (a' := ?_) #[true, true, true, true, true, true, true, false, false, false] rfl rfl (by kernel_rfl) (fun _ _ _ h => h) (Or.inl ⟨by rfl, ?_⟩) ?_ ?_
   rotate_left
   ·intro w'
    go_simp
    with_reducible rfl
   rotate_left
   ·simp only [Act.put, setIfInBounds_toArray, set_cons_zero, set_cons_succ, i64_w, i32_w]
    rfl
   refine pure_ (i := 7) (N := some 23) (v := ?_) (a' := ?_) #[true, true, true, true, true, true, true, true, false, false] rfl rfl (by kernel_rfl) (fun _ _ _ h => h) (Or.inl ⟨by rfl, ?_⟩) ?_ ?_
   rotate_left
   ·intro w'
    go_simp
    with_reducible rfl
   rotate_left
   ·simp only [Act.put, setIfInBounds_toArray, set_cons_zero, set_cons_succ, i64_w, i32_w]
    rfl
   refine take_ (i := 8) (N := some 24) (v := ?_) (a' := ?_) #[true, true, true, true, true, true, true, true, true, false] rfl rfl (by kernel_rfl) (fun _ _ _ h => h) (Or.inl ⟨by rfl, ?_⟩) hHeld ?_ ?_
   rotate_left
   ·rintro w' ⟨s0, s1, s2⟩
    go_simp
    with_reducible rfl
   rotate_left
   ·simp only [Act.put, setIfInBounds_toArray, set_cons_zero, set_cons_succ, i64_w, i32_w]
    rfl
   refine pure_ (i := 9) (N := some 5) (v := ?_) (a' := ?_) #[true, true, true, true, true, true, true, true, true, true] rfl rfl (by kernel_rfl) (fun _ _ _ h => h) (Or.inl ⟨by rfl, ?_⟩) ?_ ?_
   rotate_left
   ·intro w'
    go_simp
    with_reducible rfl
   rotate_left
   ·simp only [Act.put, setIfInBounds_toArray, set_cons_zero, set_cons_succ, i64_w, i32_w]
    rfl
   refine done_ (by kernel_rfl) ?_
   go_wp2
   go_meet
   case rel => exact ⟨rfl, ⟨blk_drew HAW.out⟩, ⟨below_drew HBW.out⟩⟩
  rw [if_neg hp] at hab
  have hpb : decide (i > 0) = false := decide_eq_false hp
  (first | rw [hpb] | skip)
  go_wp2
  go_meet
  case rel => exact ⟨by rw [← Option.some.inj hab], HAW, HBW⟩
 case rest =>
  obtain ⟨rfl, HA, HBc⟩ := hcut
  clear HAW HBW HAB
  have HGN := Aside0.mk (show ga ≠ g from by have h1 := HG.out; have h2 := HGS.out; omega)
  have HF1 := Aside0.mk (FileB.below HF0.out HBc.out)
  have HK1 := Aside0.mk (FKp.of (g := g) HBc.out HB0.out.size)
  have HS1 := Aside0.mk (Nat.le_trans HB0.out.size HBc.out.size)
  have ht := HT.out
  rw [HX.out] at ht
  have hh : (headT out x ab).size ≤ (out ++ t).size := by
   rw [headT_shift, ByteArray.size_append, ByteArray.size_append]
   split at ht
   ·rw [← Option.some.inj ht, ByteArray.size_append]; omega
   obtain ⟨kt, _, ht⟩ := Option.bind_eq_some_iff.1 ht
   rw [← Option.some.inj ht]
   simp only [ByteArray.size_append]
   omega
  have HHd := Aside0.mk hh
  obtain ⟨o1, ho1⟩ : ∃ o, o = out ++ ((⟨#[60]⟩ : ByteArray) ++ x.f2) := ⟨_, rfl⟩
  obtain ⟨o2, ho2⟩ : ∃ o, o = if x.f3.toList = ab.toList then o1 else o1 ++ attrT spaceT (escT x.f3) := ⟨_, rfl⟩
  have hhd : headT out x ab = attrsO o2 x.f4 := by rw [ho2, ho1]; rfl
  have h21 : o1.size ≤ o2.size := by
   rw [ho2]; split
   ·exact Nat.le_refl _
   rw [ByteArray.size_append]; omega
  have h2h := attrsO_size x.f4 o2
  rw [← hhd] at h2h
  have h1s : o1.size = out.size + (1 + x.f2.size) := by rw [ho1]; simp only [ByteArray.size_append]; rfl
  have HZs := Aside0.mk (show o1.size = out.size + (1 + x.f2.size) ∧ o1.size ≤ o2.size ∧ o2.size ≤ (headT out x ab).size ∧ (headT out x ab).size + 10 ≤ 1000000000000 from ⟨h1s, h21, h2h, by have := HZ.out; omega⟩)
  have HO1 := Aside0.mk ho1
  have HO2 := Aside0.mk ho2
  have HHe := Aside0.mk hhd
  have HT2 := Aside0.mk ht
  have cz1 : (9223372036854775807 < 1 + x.f2.size) = False := eq_false (by have := HZs.out; omega)
  clear ht hh ho1 ho2 hhd h21 h2h h1s HT
  go_wp2_with fail
  refine start_ (n := 7) (S := fun w' => w'.cell? ⟨ga, 2, none⟩ = some (.string x.f2)) (ds := []) #[false, false, false, false, false, false, false] (by kernel_rfl) rfl rfl ((blk_cell HA.out 2).trans rfl) (fun hHeld => ?_)
  refine pure_ (i := 0) (N := some 25) (v := ?_) (a' := ?_) #[true, false, false, false, false, false, false] rfl rfl (by kernel_rfl) (fun _ _ _ h => h) (Or.inl ⟨by rfl, ?_⟩) ?_ ?_
  rotate_left
  ·intro w'
   go_simp
   with_reducible rfl
  rotate_left
  ·simp only [Act.put, setIfInBounds_toArray, set_cons_zero, set_cons_succ, i64_w, i32_w]
   rfl
  refine pure_ (i := 1) (N := some 26) (v := ?_) (a' := ?_) #[true, true, false, false, false, false, false] rfl rfl (by kernel_rfl) (fun _ _ _ h => h) (Or.inl ⟨by rfl, ?_⟩) ?_ ?_
  rotate_left
  ·intro w'
   go_simp
   with_reducible rfl
  rotate_left
  ·simp only [Act.put, setIfInBounds_toArray, set_cons_zero, set_cons_succ, i64_w, i32_w]
   rfl
  refine pure_ (i := 2) (N := some 27) (v := ?_) (a' := ?_) #[true, true, true, false, false, false, false] rfl rfl (by kernel_rfl) (fun _ _ _ h => h) (Or.inl ⟨by rfl, ?_⟩) ?_ ?_
  rotate_left
  ·intro w'
   go_simp
   with_reducible rfl
  rotate_left
  ·simp only [Act.put, setIfInBounds_toArray, set_cons_zero, set_cons_succ, i64_w, i32_w]
   rfl
  refine pure_ (i := 3) (N := some 28) (v := ?_) (a' := ?_) #[true, true, true, true, false, false, false] rfl rfl (by kernel_rfl) (fun _ _ _ h => h) (Or.inl ⟨by rfl, ?_⟩) ?_ ?_
  rotate_left
  ·intro w'
   go_simp
   with_reducible rfl
  rotate_left
  ·simp only [Act.put, setIfInBounds_toArray, set_cons_zero, set_cons_succ, i64_w, i32_w]
   rfl
  refine take_ (i := 4) (N := some 29) (v := ?_) (a' := ?_) #[true, true, true, true, true, false, false] rfl rfl (by kernel_rfl) (fun _ _ _ h => h) (Or.inl ⟨by rfl, ?_⟩) hHeld ?_ ?_
  rotate_left
  ·intro w' s0
   go_simp
   with_reducible rfl
  rotate_left
  ·simp only [Act.put, setIfInBounds_toArray, set_cons_zero, set_cons_succ, i64_w, i32_w]
   rfl
  refine pure_ (i := 5) (N := some 30) (v := ?_) (a' := ?_) #[true, true, true, true, true, true, false] rfl rfl (by kernel_rfl) (fun _ _ _ h => h) (Or.inl ⟨by rfl, ?_⟩) ?_ ?_
  rotate_left
  ·intro w'
   go_simp
   with_reducible rfl
  rotate_left
  ·simp only [Act.put, setIfInBounds_toArray, set_cons_zero, set_cons_succ, i64_w, i32_w]
   rfl
  refine one_ (i := 6) (N := some 31) #[true, true, true, true, true, true, true] rfl rfl (by kernel_rfl) (by decide) (fun K hK => ?_)
  refine goes_ Tryd.func13 (by kernel_rfl) rfl #[.pointer (some ⟨g, 0, none⟩), .string ((⟨#[60]⟩ : ByteArray) ++ x.f2)] (by rfl) rfl rfl (by simp only [List.map_toArray, List.map_cons, List.map_nil]; rfl) ?_
  refine (fwrite w0.heap.size g _ _ _ _ (FileB.below HF1.out (below_drew (Below.refl _ _))) (by rw [Lib.strCells_length, ByteArray.size_append]; have h := HZs.out; show out.size + (1 + x.f2.size) ≤ _; omega) HS1.out).mono ?_
  rintro e w5 ⟨rfl, hF5, hb5⟩
  refine ⟨_, rfl, ?_⟩
  have HF5 := Aside0.mk (show FileB w5 w0.heap.size g (.slice (some ad) l0.length c0) (Lib.strCells o1) from by rw [HO1.out]; exact FileB.cat hF5)
  have HA5 := Aside0.mk (FKp.blk hb5 (blk_drew HA.out) HGN.out (by decide))
  have HK5 := Aside0.mk (FKp.trans (FKp.drew HK1.out) hb5)
  have HS5 := Aside0.mk (Nat.le_trans HS1.out hb5.size)
  refine hK.out _ _ ((blk_cell HA5.out 2).trans rfl) (fun hHeld => ?_)
  clear hK K
  refine norm_ (a' := ?_) ?_ ?_
  rotate_left
  ·show Act.put _ (some 31) _ = _
   simp only [Act.put, setIfInBounds_toArray, set_cons_zero, set_cons_succ, i64_w, i32_w]
   rfl
  refine done_ (by kernel_rfl) ?_
  clear HF1 HK1 HS1
  have hc3 : w5.cell? ⟨ga, 3, none⟩ = some (.string x.f3) := (blk_cell HA5.out 3).trans rfl
  go_upto_if 35 with (fail)
  (try simp only [Act.put, setIfInBounds_toArray, set_cons_zero, set_cons_succ])
  go_cut [] (fun wc => Aside0 (wc.heap[ga]? = some (.cells #[.int .i64 x.f0, .int .i64 x.f1, .string x.f2, .string x.f3, .slice A4 x.f4.length c4, .string x.f5] 32 (0, 0))) ∧ Aside0 (FileB wc w0.heap.size g (.slice (some ad) l0.length c0) (Lib.strCells o2)) ∧ Aside0 (FKp w0.heap.size g w wc) ∧ Aside0 (w0.heap.size ≤ wc.heap.size))
  case first =>
   by_cases hs : x.f3.toList = ab.toList
   ·have hsb : (x.f3.toList == ab.toList) = true := beq_iff_eq.mpr hs
    (first | rw [hsb] | skip)
    go_wp2
    go_meet
    case rel => exact ⟨HA5, ⟨by rw [HO2.out, if_pos hs]; exact HF5.out⟩, HK5, HS5⟩
   have hsb : (x.f3.toList == ab.toList) = false := beq_eq_false_iff_ne.mpr hs
   (first | rw [hsb] | skip)
   have HO2' := Aside0.mk (HO2.out.trans (if_neg hs))
   have HZ2 := Aside0.mk (show o1.size + (5 + (escT x.f3).size + 4) = o2.size from by rw [HO2'.out, ByteArray.size_append, attrT_size]; rfl)
   have HGe := Aside0.mk (escT_ge x.f3)
   go_wp2_with (first | (go_at_call 23; refine (canon_attr.hof w0.heap.size g _ o1 spaceT x.f3 (escT x.f3) _ HF5.out HS5.out (escT_f _ (by have h1 := HGe.out; have h2 := HZ2.out; have h3 := HZs.out; omega)) (by have h2 := HZ2.out; have h3 := HZs.out; show o1.size + 5 + (escT x.f3).size + 10 ≤ _; omega)).mono ?_; rintro e w6 ⟨rfl, hF6, hb6⟩; have HF6 := Aside0.mk hF6; have HA6 := Aside0.mk (FKp.blk hb6 HA5.out HGN.out (by decide)); have HK6 := Aside0.mk (FKp.trans HK5.out hb6); have HS6 := Aside0.mk (Nat.le_trans HS5.out hb6.size); clear hF6 hb6))
   go_meet
   case rel => exact ⟨HA6, ⟨by rw [HO2'.out]; exact HF6.out⟩, HK6, HS6⟩
  case rest =>
   obtain ⟨HA, HF, HK, HS⟩ := hcut
   clear HF5 HA5 HK5 HS5 hc3
   have hc4 := (blk_cell HA.out 4).trans (rfl : _ = some (Value.slice A4 x.f4.length c4))
   have HZ3 := Aside0.mk (show (attrsO o2 x.f4).size + 10 ≤ 1000000000000 from by rw [← HHe.out]; exact HZs.out.2.2.2)
   go_upto_region 8 with (first | (go_at_call 24; refine (api_Attr.hof g _ A4 c4 x.f4 o2 w0 _ HR4.out HR4.out.2.1 (HB0.out.trans HK.out.1) HF.out HZ3.out).mono ?_; rintro e w6 ⟨rfl, hF6, hb6⟩; have HF6 := Aside0.mk hF6; have HA6 := Aside0.mk (FKp.blk hb6 HA.out HGN.out (by decide)); have HK6 := Aside0.mk (FKp.trans HK.out hb6); have HS6 := Aside0.mk (Nat.le_trans HS.out hb6.size); have hg2 := hF6.cell2; clear hF6 hb6) | (go_at_call 25; refine (tree_Kids.calls k (some ad) c0 l0 i ks _ (Kd.C_below HR.out (HB0.out.trans HK6.out.1)) HL.out HKS.out).mono ?_; rintro e w7 ⟨v7, rfl, hR7, hb7⟩; have HR7 := Aside0.mk hR7; have HF7 := Aside0.mk (FileB.below HF6.out hb7); have HA7 := Aside0.mk (blk_below HA6.out hb7); have HK7 := Aside0.mk (FKp.then_ HK6.out hb7 HS6.out); have HS7 := Aside0.mk (Nat.le_trans HS6.out hb7.size); clear hR7 hb7))
   (try simp only [Act.put, setIfInBounds_toArray, set_cons_zero, set_cons_succ])
   obtain ⟨A7, c7, rfl, hl7, hC7⟩ := Kd.R_reads HR7.out
   clear hl7 hC7 HA HF HK HS HF6 HA6 HK6 HS6 hg2 hc4
   go_cut [58] (fun v58 wc => v58 = .bool (decide (x.f5.toList = [] ∧ ks = [])) ∧ Aside0 (wc.heap[ga]? = some (.cells #[.int .i64 x.f0, .int .i64 x.f1, .string x.f2, .string x.f3, .slice A4 x.f4.length c4, .string x.f5] 32 (0, 0))) ∧ Aside0 (FileB wc w0.heap.size g (.slice (some ad) l0.length c0) (Lib.strCells (attrsO o2 x.f4))) ∧ Aside0 (FKp w0.heap.size g w wc) ∧ Aside0 (w0.heap.size ≤ wc.heap.size) ∧ Aside0 (∃ base, Kd.R (Kd.int .i64) 3 wc base (fun _ => True) (.slice A7 ks.length c7) ks))
   case first =>
    have hc5 := (blk_cell HA7.out 5).trans (rfl : _ = some (Value.string x.f5))
    by_cases he : x.f5.toList = []
    ·have heb : (x.f5.toList == ([] : List UInt8)) = true := beq_iff_eq.mpr he
     go_wp2
     go_meet
     case rel => exact ⟨congrArg Value.bool (noKids ks he), HA7, HF7, HK7, HS7, ⟨⟨_, HR7.out⟩⟩⟩
    have heb : (x.f5.toList == ([] : List UInt8)) = false := beq_eq_false_iff_ne.mpr he
    go_wp2
    go_meet
    case rel => exact ⟨congrArg Value.bool (decide_eq_false (fun h => he h.1)).symm, HA7, HF7, HK7, HS7, ⟨⟨_, HR7.out⟩⟩⟩
   case rest =>
    obtain ⟨rfl, HA, HF, HK, HS, HRk⟩ := hcut
    obtain ⟨bs, hRk⟩ := HRk.out
    have HRi := Aside0.mk hRk
    clear HRk hRk HA7 HF7 HK7 HS7 HR7
    have HEx := Aside0.mk (show out ++ headT ⟨#[]⟩ x ab = attrsO o2 x.f4 from by rw [← headT_shift, HHe.out])
    by_cases hke : x.f5.toList = [] ∧ ks = []
    ·have ht := HT2.out
     rw [if_pos hke] at ht
     have HTE := Aside0.mk (Option.some.inj ht)
     clear ht HT2
     rw [decide_eq_true hke]
     go_wp2_with (first | (go_at_call 13; refine (fwrite w0.heap.size g _ _ _ _ HF.out (by rw [Lib.strCells_length]; have h := HZ3.out; show (attrsO o2 x.f4).size + 2 ≤ _; omega) HS.out).mono ?_; rintro e w8 ⟨rfl, hF8, hb8⟩; have HF8 := Aside0.mk hF8; have HK8 := Aside0.mk (FKp.trans HK.out hb8); clear hF8 hb8))
     (try simp only [Exit.inBlock, Exit.then])
     refine bodyPost_ret (results_none rfl _ _ _) rfl ?_
     exact ⟨rfl, by rw [← HTE.out, ← ByteArray.append_assoc, HEx.out]; exact FileB.cat HF8.out, HK8.out⟩
    have ht := HT2.out
    rw [if_neg hke] at ht
    obtain ⟨kt, hkt, ht⟩ := Option.bind_eq_some_iff.1 ht
    have HKT := Aside0.mk hkt
    have HTE := Aside0.mk (Option.some.inj ht)
    clear ht HT2 hkt
    have HO4 := Aside0.mk (show out ++ t = ((attrsO o2 x.f4 ++ ((⟨#[62]⟩ : ByteArray) ++ escT x.f5)) ++ kt) ++ tailT x from by rw [← HTE.out, ← HEx.out]; simp only [ByteArray.append_assoc])
    have HZ4 := Aside0.mk (show (attrsO o2 x.f4).size + (1 + (escT x.f5).size) + kt.size + (2 + x.f2.size + 1) + 10 ≤ 1000000000000 from by
     have h1 := HZ.out
     rw [HO4.out] at h1
     simp only [ByteArray.size_append, tailT] at h1
     exact h1)
    have HGe := Aside0.mk (escT_ge x.f5)
    have cz2 : (9223372036854775807 < 1 + (escT x.f5).size) = False := eq_false (by have := HZ4.out; omega)
    have cz3 : (9223372036854775807 < 2 + x.f2.size) = False := eq_false (by have := HZ4.out; omega)
    have cz4 : (9223372036854775807 < 2 + x.f2.size + 1) = False := eq_false (by have := HZ4.out; omega)
    rw [decide_eq_false hke]
    go_wp2_with fail
    refine start_ (n := 8) (S := fun w' => w'.cell? ⟨ga, 5, none⟩ = some (.string x.f5)) (ds := []) #[false, false, false, false, false, false, false, false] (by kernel_rfl) rfl rfl ((blk_cell HA.out 5).trans rfl) (fun hHeld => ?_)
    refine pure_ (i := 0) (N := some 63) (v := ?_) (a' := ?_) #[true, false, false, false, false, false, false, false] rfl rfl (by kernel_rfl) (fun _ _ _ h => h) (Or.inl ⟨by rfl, ?_⟩) ?_ ?_
    rotate_left
    ·intro w'
     go_simp
     with_reducible rfl
    rotate_left
    ·simp only [Act.put, setIfInBounds_toArray, set_cons_zero, set_cons_succ, i64_w, i32_w]
     rfl
    refine pure_ (i := 1) (N := some 64) (v := ?_) (a' := ?_) #[true, true, false, false, false, false, false, false] rfl rfl (by kernel_rfl) (fun _ _ _ h => h) (Or.inl ⟨by rfl, ?_⟩) ?_ ?_
    rotate_left
    ·intro w'
     go_simp
     with_reducible rfl
    rotate_left
    ·simp only [Act.put, setIfInBounds_toArray, set_cons_zero, set_cons_succ, i64_w, i32_w]
     rfl
    refine pure_ (i := 2) (N := some 65) (v := ?_) (a' := ?_) #[true, true, true, false, false, false, false, false] rfl rfl (by kernel_rfl) (fun _ _ _ h => h) (Or.inl ⟨by rfl, ?_⟩) ?_ ?_
    rotate_left
    ·intro w'
     go_simp
     with_reducible rfl
    rotate_left
    ·simp only [Act.put, setIfInBounds_toArray, set_cons_zero, set_cons_succ, i64_w, i32_w]
     rfl
    refine pure_ (i := 3) (N := some 66) (v := ?_) (a' := ?_) #[true, true, true, true, false, false, false, false] rfl rfl (by kernel_rfl) (fun _ _ _ h => h) (Or.inl ⟨by rfl, ?_⟩) ?_ ?_
    rotate_left
    ·intro w'
     go_simp
     with_reducible rfl
    rotate_left
    ·simp only [Act.put, setIfInBounds_toArray, set_cons_zero, set_cons_succ, i64_w, i32_w]
     rfl
    refine take_ (i := 4) (N := some 67) (v := ?_) (a' := ?_) #[true, true, true, true, true, false, false, false] rfl rfl (by kernel_rfl) (fun _ _ _ h => h) (Or.inl ⟨by rfl, ?_⟩) hHeld ?_ ?_
    rotate_left
    ·intro w' s0
     go_simp
     with_reducible rfl
    rotate_left
    ·simp only [Act.put, setIfInBounds_toArray, set_cons_zero, set_cons_succ, i64_w, i32_w]
     rfl
    refine one_ (i := 5) (N := some 68) #[true, true, true, true, true, true, false, false] rfl rfl (by kernel_rfl) (by decide) (fun K hK => ?_)
    refine goes_ Tryd.func26 (by kernel_rfl) rfl #[.string x.f5] (by rfl) rfl rfl (by simp only [List.map_toArray, List.map_cons, List.map_nil]; rfl) ?_
    with_reducible refine (escape_Text.calls x.f5 (escT x.f5) _ (escT_f _ (by have h1 := HGe.out; have h2 := HZ4.out; omega))).mono ?_
    rintro e w8 ⟨rfl, hb8⟩
    refine ⟨_, rfl, ?_⟩
    have HF8 := Aside0.mk (FileB.below (FileB.below HF.out (below_drew (Below.refl _ _))) hb8)
    have HA8 := Aside0.mk (blk_below (blk_drew HA.out) hb8)
    have HK8 := Aside0.mk (FKp.then_ (FKp.drew HK.out) hb8 HS.out)
    have HS8 := Aside0.mk (Nat.le_trans HS.out hb8.size)
    have HR8 := Aside0.mk (Kd.R_below (Kd.R_drew HRi.out) hb8)
    refine hK.out _ _ ((blk_cell HA8.out 5).trans rfl) (fun hHeld => ?_)
    clear hK K
    refine norm_ (a' := ?_) ?_ ?_
    rotate_left
    ·show Act.put _ (some 68) _ = _
     simp only [Act.put, setIfInBounds_toArray, set_cons_zero, set_cons_succ, i64_w, i32_w]
     rfl
    refine pure_ (i := 6) (N := some 69) (v := ?_) (a' := ?_) #[true, true, true, true, true, true, true, false] rfl rfl (by kernel_rfl) (fun _ _ _ h => h) (Or.inl ⟨by rfl, ?_⟩) ?_ ?_
    rotate_left
    ·intro w'
     go_simp
     with_reducible rfl
    rotate_left
    ·simp only [Act.put, setIfInBounds_toArray, set_cons_zero, set_cons_succ, i64_w, i32_w]
     rfl
    refine one_ (i := 7) (N := some 70) #[true, true, true, true, true, true, true, true] rfl rfl (by kernel_rfl) (by decide) (fun K hK => ?_)
    refine goes_ Tryd.func13 (by kernel_rfl) rfl #[.pointer (some ⟨g, 0, none⟩), .string ((⟨#[62]⟩ : ByteArray) ++ escT x.f5)] (by rfl) rfl rfl (by simp only [List.map_toArray, List.map_cons, List.map_nil]; rfl) ?_
    refine (fwrite w0.heap.size g _ _ _ _ HF8.out (by rw [Lib.strCells_length, ByteArray.size_append]; have h := HZ4.out; show (attrsO o2 x.f4).size + (1 + (escT x.f5).size) ≤ _; omega) HS8.out).mono ?_
    rintro e w9 ⟨rfl, hF9, hb9⟩
    refine ⟨_, rfl, ?_⟩
    have HF9 := Aside0.mk (FileB.cat hF9)
    have HA9 := Aside0.mk (FKp.blk hb9 HA8.out HGN.out (by decide))
    have HR9 := Aside0.mk (FKp.intsB HF8.out hb9 HR8.out)
    have HK9 := Aside0.mk (FKp.trans HK8.out hb9)
    have HS9 := Aside0.mk (Nat.le_trans HS8.out hb9.size)
    refine hK.out _ _ ((blk_cell HA9.out 5).trans rfl) (fun hHeld => ?_)
    clear hK K
    refine norm_ (a' := ?_) ?_ ?_
    rotate_left
    ·show Act.put _ (some 70) _ = _
     simp only [Act.put, setIfInBounds_toArray, set_cons_zero, set_cons_succ, i64_w, i32_w]
     rfl
    refine done_ (by kernel_rfl) ?_
    clear HF HA HK HS HRi
    go_wp2_with (first | (go_at_call 27; refine (canon_all_int.hof g _ A7 c7 ks _ kt (nodeT k l0) w0 _ (fun W hW => (Kd.R_reads' (FKp.intsB HF9.out hW HR9.out)).2.2) (Kd.R_reads' HR9.out).2.2.2.1 (HB0.out.trans HK9.out.1) HF9.out HKT.out (by simp only [ByteArray.size_append]; have h := HZ4.out; show (attrsO o2 x.f4).size + (1 + (escT x.f5).size) + kt.size + 10 ≤ _; omega) (fun j o a W ha hz hB hFj => IH.out j o a W hB hFj ha hz)).mono ?_; rintro e w10 ⟨rfl, hF10, hb10⟩; have HF10 := Aside0.mk hF10; have HA10 := Aside0.mk (FKp.blk hb10 HA9.out HGN.out (by decide)); have HK10 := Aside0.mk (FKp.trans HK9.out hb10); have HS10 := Aside0.mk (Nat.le_trans HS9.out hb10.size); clear hF10 hb10))
    refine start_ (n := 8) (S := fun w' => w'.cell? ⟨ga, 2, none⟩ = some (.string x.f2)) (ds := []) #[false, false, false, false, false, false, false, false] (by kernel_rfl) rfl rfl ((blk_cell HA10.out 2).trans rfl) (fun hHeld => ?_)
    refine pure_ (i := 0) (N := some 74) (v := ?_) (a' := ?_) #[true, false, false, false, false, false, false, false] rfl rfl (by kernel_rfl) (fun _ _ _ h => h) (Or.inl ⟨by rfl, ?_⟩) ?_ ?_
    rotate_left
    ·intro w'
     go_simp
     with_reducible rfl
    rotate_left
    ·simp only [Act.put, setIfInBounds_toArray, set_cons_zero, set_cons_succ, i64_w, i32_w]
     rfl
    refine pure_ (i := 1) (N := some 75) (v := ?_) (a' := ?_) #[true, true, false, false, false, false, false, false] rfl rfl (by kernel_rfl) (fun _ _ _ h => h) (Or.inl ⟨by rfl, ?_⟩) ?_ ?_
    rotate_left
    ·intro w'
     go_simp
     with_reducible rfl
    rotate_left
    ·simp only [Act.put, setIfInBounds_toArray, set_cons_zero, set_cons_succ, i64_w, i32_w]
     rfl
    refine pure_ (i := 2) (N := some 76) (v := ?_) (a' := ?_) #[true, true, true, false, false, false, false, false] rfl rfl (by kernel_rfl) (fun _ _ _ h => h) (Or.inl ⟨by rfl, ?_⟩) ?_ ?_
    rotate_left
    ·intro w'
     go_simp
     with_reducible rfl
    rotate_left
    ·simp only [Act.put, setIfInBounds_toArray, set_cons_zero, set_cons_succ, i64_w, i32_w]
     rfl
    refine pure_ (i := 3) (N := some 77) (v := ?_) (a' := ?_) #[true, true, true, true, false, false, false, false] rfl rfl (by kernel_rfl) (fun _ _ _ h => h) (Or.inl ⟨by rfl, ?_⟩) ?_ ?_
    rotate_left
    ·intro w'
     go_simp
     with_reducible rfl
    rotate_left
    ·simp only [Act.put, setIfInBounds_toArray, set_cons_zero, set_cons_succ, i64_w, i32_w]
     rfl
    refine take_ (i := 4) (N := some 78) (v := ?_) (a' := ?_) #[true, true, true, true, true, false, false, false] rfl rfl (by kernel_rfl) (fun _ _ _ h => h) (Or.inl ⟨by rfl, ?_⟩) hHeld ?_ ?_
    rotate_left
    ·intro w' s0
     go_simp
     with_reducible rfl
    rotate_left
    ·simp only [Act.put, setIfInBounds_toArray, set_cons_zero, set_cons_succ, i64_w, i32_w]
     rfl
    refine pure_ (i := 5) (N := some 79) (v := ?_) (a' := ?_) #[true, true, true, true, true, true, false, false] rfl rfl (by kernel_rfl) (fun _ _ _ h => h) (Or.inl ⟨by rfl, ?_⟩) ?_ ?_
    rotate_left
    ·intro w'
     go_simp
     with_reducible rfl
    rotate_left
    ·simp only [Act.put, setIfInBounds_toArray, set_cons_zero, set_cons_succ, i64_w, i32_w]
     rfl
    refine pure_ (i := 6) (N := some 80) (v := ?_) (a' := ?_) #[true, true, true, true, true, true, true, false] rfl rfl (by kernel_rfl) (fun _ _ _ h => h) (Or.inl ⟨by rfl, ?_⟩) ?_ ?_
    rotate_left
    ·intro w'
     go_simp
     with_reducible rfl
    rotate_left
    ·simp only [Act.put, setIfInBounds_toArray, set_cons_zero, set_cons_succ, i64_w, i32_w]
     rfl
    refine one_ (i := 7) (N := some 81) #[true, true, true, true, true, true, true, true] rfl rfl (by kernel_rfl) (by decide) (fun K hK => ?_)
    refine goes_ Tryd.func13 (by kernel_rfl) rfl #[.pointer (some ⟨g, 0, none⟩), .string (tailT x)] (by rfl) rfl rfl (by simp only [List.map_toArray, List.map_cons, List.map_nil]; rfl) ?_
    refine (fwrite w0.heap.size g _ _ _ _ (FileB.below HF10.out (below_drew (Below.refl _ _))) (by rw [Lib.strCells_length]; simp only [tailT, ByteArray.size_append]; have h := HZ4.out; show (attrsO o2 x.f4).size + (1 + (escT x.f5).size) + kt.size + (2 + x.f2.size + 1) ≤ _; omega) HS10.out).mono ?_
    rintro e w11 ⟨rfl, hF11, hb11⟩
    refine ⟨_, rfl, ?_⟩
    have HF11 := Aside0.mk (FileB.cat hF11)
    have HA11 := Aside0.mk (FKp.blk hb11 (blk_drew HA10.out) HGN.out (by decide))
    have HK11 := Aside0.mk (FKp.trans (FKp.drew HK10.out) hb11)
    refine hK.out _ _ ((blk_cell HA11.out 2).trans rfl) (fun hHeld => ?_)
    clear hK K
    refine norm_ (a' := ?_) ?_ ?_
    rotate_left
    ·show Act.put _ (some 81) _ = _
     simp only [Act.put, setIfInBounds_toArray, set_cons_zero, set_cons_succ, i64_w, i32_w]
     rfl
    refine done_ (by kernel_rfl) ?_
    go_wp2
    go_end0
    exact ⟨rfl, by rw [HO4.out]; exact HF11.out, HK11.out⟩
def prologT : ByteArray := ⟨#[60, 63, 120, 109, 108, 32, 118, 101, 114, 115, 105, 111, 110, 61, 39, 49, 46, 48, 39, 32, 101, 110, 99, 111, 100, 105, 110, 103, 61, 39, 85, 84, 70, 45, 56, 39, 63, 62, 10]⟩
theorem kidsT_mono {f g : Int → Option ByteArray} (h : ∀ j, LeO (f j) (g j)) : ∀ ks, LeO (kidsT f ks) (kidsT g ks)
 | [] => LeO.refl _
 | j :: r => LeO.bind (h j) (fun _ => LeO.bind (kidsT_mono h r) (fun _ => LeO.refl _))
theorem nodeT_mono (l : List S32) : ∀ (k : Nat) (i : Int), LeO (nodeT k l i) (nodeT (k + 1) l i)
 | 0, _ => LeO.none _
 | k + 1, i => LeO.ite (LeO.bind (LeO.refl _) fun ab => LeO.bind (tree_Kids.mono l i k) fun ks => LeO.ite (LeO.refl _) (LeO.bind (kidsT_mono (nodeT_mono l k) ks) fun _ => LeO.refl _)) (LeO.none _)
def canon_Write.f (k : Nat) (l0 : List S32) : Option (ByteArray × Int) :=
 (canon_Right.f k l0).bind fun b => if b = true then (nodeT k l0 0).bind fun t => if (prologT ++ t).size + 10 ≤ 1000000000000 ∧ l0.length ≤ 1000000 then some (prologT ++ t, 0) else none else some (⟨#[]⟩, 6)
theorem canon_Write.mono : ∀ a0 k, LeO (canon_Write.f k a0) (canon_Write.f (k + 1) a0) := by
 intro a0 k
 unfold canon_Write.f
 exact LeO.bind (canon_Right.mono a0 k) fun b => LeO.ite (LeO.bind (nodeT_mono a0 k 0) fun _ => LeO.refl _) (LeO.refl _)
theorem cells_bytes (s : ByteArray) : Lib.strCells s = Lib.byteCells s.data.toList := by
 simp [Lib.strCells, Lib.byteCells, ByteArray.toList_eq]
theorem FileB.nil_cat {w : World} {B g : Nat} {S : Value} {x : List Value} (h : FileB w B g S (Lib.strCells ⟨#[]⟩ ++ x)) : FileB w B g S x := h
set_option maxHeartbeats 4000000 in
set_option maxRecDepth 100000 in
theorem canon_Write.calls (k : Nat) (A0 : Option Addr) (c0 : Nat) (l0 : List S32) (r1 : ByteArray) (r2 : Int) (w : World)
  (hr0 : Kd.C k32 w A0 l0.length l0) (hc0 : l0.length ≤ c0) (h : canon_Write.f k l0 = some (r1, r2)) (hT : Tabs w) :
  Calls Tryd.prog 7 #[.slice A0 l0.length c0] w fun e w' => e = .returned (.tuple #[.string r1, .int .i64 r2]) ∧ Below w.heap.size w w' := by
 unfold canon_Write.f at h
 obtain ⟨b, hb, h⟩ := Option.bind_eq_some_iff.1 h
 have hu2 := Tryd.underlying46
 have HR := Aside0.mk hr0
 have HC := Aside0.mk hc0
 have HT := Aside0.mk hT
 have HB := Aside0.mk hb
 clear hr0 hT hb hc0
 cases b with
 | false =>
  rw [if_neg Bool.false_ne_true] at h
  cases h
  go_enter Tryd.func7, Tryd.ntmps7
  go_wp2_with (first | (go_at_call 9; (with_reducible refine (canon_Right.calls k A0 c0 l0 _ _ HR.out HC.out HB.out HT.out).mono ?_); rintro e w1 ⟨rfl, hb1⟩; have HB1 := Aside0.mk hb1; clear hb1))
  go_ret2
  exact ⟨rfl, HB1.out⟩
 | true =>
  rw [if_pos rfl] at h
  obtain ⟨t, ht, h⟩ := Option.bind_eq_some_iff.1 h
  have hz : (prologT ++ t).size + 10 ≤ 1000000000000 ∧ l0.length ≤ 1000000 := Decidable.byContradiction fun hn => by rw [if_neg hn] at h; cases h
  rw [if_pos hz] at h
  cases h
  have HN := Aside0.mk ht
  have HZ := Aside0.mk hz
  clear ht hz
  go_enter Tryd.func7, Tryd.ntmps7
  go_wp2_with (first | (go_at_call 9; (with_reducible refine (canon_Right.calls k A0 c0 l0 _ _ HR.out HC.out HB.out HT.out).mono ?_); rintro e w1 ⟨rfl, hb1⟩; have HB1 := Aside0.mk hb1; clear hb1) | ((with_reducible refine gate_dst (N := 10) rfl ?_); refine box_event ?hg (N := 10) ?hd (cs := #[.pointer none, .slice none 0 0, .slice A0 l0.length c0]) (t := 46) ?hr ?_; (case hd => rfl); (case hg => rfl); (case hr => first | (go_simp; done) | (go_simp; rfl)); intro ga hga w2 hbox2 hb2; have HB2 := Aside0.mk (below_step HB1.out hb2); have HS2 := Aside0.mk HB2.out.size; have HF2 := Aside0.mk (show FileB w2 w.heap.size ga (.slice A0 l0.length c0) (Lib.strCells ⟨#[]⟩) from .inl ⟨by have := HB1.out.size; omega, _, hbox2, World.ownsRow_nil _ _ _ _, by simp [Value.ownBlock]⟩); clear hga hbox2 hb2) | (go_at_call 13; refine (fwrite w.heap.size ga _ (Lib.strCells ⟨#[]⟩) prologT _ HF2.out (by rw [Lib.strCells_length]; show (0 : Nat) + 39 ≤ _; omega) HS2.out).mono ?_; rintro e w3 ⟨rfl, hF3, hb3⟩; have HF3 := Aside0.mk (FileB.nil_cat hF3); have HB3 := Aside0.mk (HB2.out.trans hb3.1); clear hF3 hb3) | (go_at_call 14; refine (canon_node.hof ga A0 c0 l0 w HR.out HC.out HZ.out.2 k 0 prologT t _ HB3.out HF3.out HN.out HZ.out.1).mono ?_; rintro e w4 ⟨rfl, hF4, hb4⟩; have HF4 := Aside0.mk hF4; have HB4 := Aside0.mk (HB3.out.trans hb4.1); clear hF4 hb4) | (go_at_call 15; refine (fstring w.heap.size ga _ (prologT ++ t).data.toList _ (by rw [← cells_bytes]; exact HF4.out) (by intro e; have h1 := congrArg List.length e; have h2 : (prologT ++ t).size = 39 + t.size := (by rw [ByteArray.size_append]; rfl); rw [Array.length_toList] at h1; change (prologT ++ t).size = 0 at h1; omega)).mono ?_; rintro e w5 ⟨rfl, hb5⟩; have HB5 := Aside0.mk (HB4.out.trans hb5); clear hb5))
  go_ret2
  exact ⟨rfl, HB5.out⟩
end Go.Proofs.YtgacmniagmfckaaDoor.Q
