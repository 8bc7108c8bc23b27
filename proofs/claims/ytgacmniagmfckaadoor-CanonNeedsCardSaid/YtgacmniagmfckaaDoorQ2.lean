-- Written by hookprint.py (wip/) of this session: the kit's print with hand-proved functions beside it. Not trusted: Lean checks it.
import Derived.Test.YtgacmniagmfckaaDoorQ0
import Derived.Test.YtgacmniagmfckaaDoorQ1
namespace Go.Proofs.YtgacmniagmfckaaDoor.Q
open List (setIfInBounds_toArray set_cons_zero set_cons_succ)
open Go.RowKit Go.Lib Go.Proofs.YtgacmniagmfckaaDoorX Go.Proofs.YtgacmniagmfckaaDoorW.PrintWords Go.Proofs.YtgacmniagmfckaaDoorW.PrintLast Go.Proofs.YtgacmniagmfckaaDoorW.PrintMore
set_option linter.unusedVariables false
set_option linter.unusedSimpArgs false
mutual
def canon_Right.j0 : Nat → List (S32) → Bool → Option (Bool)
 | 0, _, _ => none
 | k + 1, x0, x14 => if x14 = true then (some false) else (canon_Right.l0 k x0 ([] : List Int) x0 (x0.length : Int) 0)
def canon_Right.l0 : Nat → List (S32) → List Int → List (S32) → Int → Int → Option (Bool)
 | 0, _, _, _, _, _ => none
 | k + 1, x0, x3, x15, x16, x17 => if x17 < x16 then (if 0 ≤ x17 then (if x17 < (x15.length : Int) then (canon_Right.l1 k x0 x3 x17 x15 x16 x17 ((rd_T32 x15 x17).f0) ((rd_T32 x15 x17).f1) ((rd_T32 x15 x17).f2) ((rd_T32 x15 x17).f3) ((rd_T32 x15 x17).f4) ((rd_T32 x15 x17).f5)) else (none)) else (none)) else (some true)
def canon_Right.l1 : Nat → List (S32) → List Int → Int → List (S32) → Int → Int → Int → Int → ByteArray → ByteArray → List (S29) → ByteArray → Option (Bool)
 | 0, _, _, _, _, _, _, _, _, _, _, _, _ => none
 | k + 1, x0, x3, x4, x15, x16, x17, x122000, x122001, x122002, x122003, x122004, x122005 => if (x3.length : Int) > 0 then (if 0 ≤ (wrap64 ((x3.length : Int) - 1)) then (if (wrap64 ((x3.length : Int) - 1)) < (x3.length : Int) then (if (rd x3 (wrap64 ((x3.length : Int) - 1))) = x122000 then (if ((decide ((x3.length : Int) > 0)) != (decide (x4 > 0))) = true then (some false) else ((canon_alone.f x122000 x122001 x122002 x122003 x122004 x122005).bind fun t123 => (if t123 = true then (if (x3.length : Int) ≥ 12 then (some false) else (if 0 ≤ x122000 then (if x122000 < (x0.length : Int) then (if ((rd_T32 x0 x122000).f5).toList = ([] : List UInt8) then (if x3.length < 17592186044416 then (canon_Right.l0 k x0 (x3 ++ [x4]) x15 x16 (wrap64 (x17 + 1))) else (none)) else (some false)) else (none)) else (none))) else (some false)))) else (if (wrap64 ((x3.length : Int) - 1)) ≤ (x3.length : Int) then (canon_Right.l1 k x0 (x3.take ((wrap64 ((x3.length : Int) - 1)) : Int).toNat) x4 x15 x16 x17 x122000 x122001 x122002 x122003 x122004 x122005) else (none))) else (none)) else (none)) else (if ((decide ((x3.length : Int) > 0)) != (decide (x4 > 0))) = true then (some false) else (if x122000 = (-1) then ((canon_alone.f x122000 x122001 x122002 x122003 x122004 x122005).bind fun t131 => (if t131 = true then (if (x3.length : Int) ≥ 12 then (some false) else (if x3.length < 17592186044416 then (canon_Right.l0 k x0 (x3 ++ [x4]) x15 x16 (wrap64 (x17 + 1))) else (none))) else (some false))) else (some false)))
end
def canon_Right.f (k : Nat) (l0 : List (S32)) : Option (Bool) := if (l0.length : Int) = 0 then (canon_Right.j0 k l0 true) else (canon_Right.j0 k l0 (decide ((l0.length : Int) > 1000)))
theorem canon_Right.mono_l : ∀ k, (∀ y0 y1, LeO (canon_Right.j0 k y0 y1) (canon_Right.j0 (k + 1) y0 y1)) ∧ (∀ y0 y1 y2 y3 y4, LeO (canon_Right.l0 k y0 y1 y2 y3 y4) (canon_Right.l0 (k + 1) y0 y1 y2 y3 y4)) ∧ (∀ y0 y1 y2 y3 y4 y5 y6 y7 y8 y9 y10 y11, LeO (canon_Right.l1 k y0 y1 y2 y3 y4 y5 y6 y7 y8 y9 y10 y11) (canon_Right.l1 (k + 1) y0 y1 y2 y3 y4 y5 y6 y7 y8 y9 y10 y11))
 | 0 => ⟨fun _ _ r h => by simp [canon_Right.j0] at h, fun _ _ _ _ _ r h => by simp [canon_Right.l0] at h, fun _ _ _ _ _ _ _ _ _ _ _ _ r h => by simp [canon_Right.l1] at h⟩
 | k + 1 => by
  obtain ⟨ih0, ih1, ih2⟩ := canon_Right.mono_l k
  refine ⟨?_, ?_, ?_⟩
  ·intro y0 y1
   unfold canon_Right.j0
   repeat' first
   | (with_reducible exact ih0 _ _)
   | (with_reducible exact ih1 _ _ _ _ _)
   | (with_reducible exact ih2 _ _ _ _ _ _ _ _ _ _ _ _)
   | (with_reducible exact LeO.refl _)
   | (with_reducible exact LeO.none _)
   | (with_reducible refine LeO.ite ?_ ?_)
   | (with_reducible refine LeO.bind ?_ (fun _ => ?_))
   | exact ih0 _ _
   | exact ih1 _ _ _ _ _
   | exact ih2 _ _ _ _ _ _ _ _ _ _ _ _
   | exact LeO.none _
   | refine LeO.ite ?_ ?_
   | refine LeO.bind ?_ (fun _ => ?_)
  ·intro y0 y1 y2 y3 y4
   unfold canon_Right.l0
   repeat' first
   | (with_reducible exact ih0 _ _)
   | (with_reducible exact ih1 _ _ _ _ _)
   | (with_reducible exact ih2 _ _ _ _ _ _ _ _ _ _ _ _)
   | (with_reducible exact LeO.refl _)
   | (with_reducible exact LeO.none _)
   | (with_reducible refine LeO.ite ?_ ?_)
   | (with_reducible refine LeO.bind ?_ (fun _ => ?_))
   | exact ih0 _ _
   | exact ih1 _ _ _ _ _
   | exact ih2 _ _ _ _ _ _ _ _ _ _ _ _
   | exact LeO.none _
   | refine LeO.ite ?_ ?_
   | refine LeO.bind ?_ (fun _ => ?_)
  intro y0 y1 y2 y3 y4 y5 y6 y7 y8 y9 y10 y11
  unfold canon_Right.l1
  repeat' first
  | (with_reducible exact ih0 _ _)
  | (with_reducible exact ih1 _ _ _ _ _)
  | (with_reducible exact ih2 _ _ _ _ _ _ _ _ _ _ _ _)
  | (with_reducible exact LeO.refl _)
  | (with_reducible exact LeO.none _)
  | (with_reducible refine LeO.ite ?_ ?_)
  | (with_reducible refine LeO.bind ?_ (fun _ => ?_))
  | exact ih0 _ _
  | exact ih1 _ _ _ _ _
  | exact ih2 _ _ _ _ _ _ _ _ _ _ _ _
  | exact LeO.none _
  | refine LeO.ite ?_ ?_
  | refine LeO.bind ?_ (fun _ => ?_)
theorem canon_Right.mono : ∀ a0 k, LeO (canon_Right.f k a0) (canon_Right.f (k + 1) a0) := by
 intro a0 k
 obtain ⟨ih0, ih1, ih2⟩ := canon_Right.mono_l k
 unfold canon_Right.f
 repeat' first
   | (with_reducible exact ih0 _ _)
   | (with_reducible exact ih1 _ _ _ _ _)
   | (with_reducible exact ih2 _ _ _ _ _ _ _ _ _ _ _ _)
   | (with_reducible exact LeO.refl _)
   | (with_reducible exact LeO.none _)
   | (with_reducible refine LeO.ite ?_ ?_)
   | (with_reducible refine LeO.bind ?_ (fun _ => ?_))
   | exact ih0 _ _
   | exact ih1 _ _ _ _ _
   | exact ih2 _ _ _ _ _ _ _ _ _ _ _ _
   | exact LeO.none _
   | refine LeO.ite ?_ ?_
   | refine LeO.bind ?_ (fun _ => ?_)
set_option maxHeartbeats 8000000 in
set_option maxRecDepth 100000 in
theorem canon_Right.calls (k : Nat) (A0 : Option Addr) (c0 : Nat) (l0 : List (S32)) (r : Bool) (w : World) (hr0 : Kd.C k32 w A0 l0.length l0) (hc0 : l0.length ≤ c0) (h : canon_Right.f k l0 = some r) (hT : Tabs w) :
  Calls Tryd.prog 9 #[.slice A0 l0.length c0] w fun e w' => e = .returned (.bool r) ∧ Below w.heap.size w w' := by
 have hu32 := Tryd.underlying32
 have HT := Aside0.mk hT
 clear hT
 have HR0 := Aside0.mk hr0
 have HC0 := Aside0.mk hc0
 clear hr0 hc0
 have HB := Aside0.mk (Below.refl w.heap.size w)
 have H : (if (l0.length : Int) = 0 then (canon_Right.j0 k l0 true) else (canon_Right.j0 k l0 (decide ((l0.length : Int) > 1000)))) = some r := h
 clear h
 have HC2 := Aside0.mk H
 clear H
 go_enter Tryd.func9, Tryd.ntmps9
 go_upto_region 1 with (fail)
 repeat (go_quiet (fail); go_upto_region 1 with (fail))
 go_cut [14] (fun v14 wc => ∃ (kq : Nat) (x14_1 : Bool), v14 = .bool x14_1 ∧ Aside0 (canon_Right.j0 kq l0 x14_1 = some r) ∧ Aside0 (kq ≤ k) ∧ Aside0 (Below w.heap.size w wc))
 case first =>
  have H := HC2.out
  clear HC2
  by_cases c3 : (l0.length : Int) = 0
  ·rw [if_pos c3] at H
   have c3b0 : ((l0.length : Int) == 0) = true := beq_iff_eq.mpr c3
   have c3b1 : ((l0.length : Int) != 0) = false := bne_eq_false_iff_eq.mpr c3
   clear c3
   (first | rw [c3b0] | (simp only [i64_w, i32_w]; rw [c3b0]) | (have h_ := c3b0; rw [List.beq_nil_eq] at h_; rw [h_]) | skip)
   have H' := Aside0.mk H
   clear H
   go_wp2
   repeat (go_quiet (fail); try go_wp2)
   go_meet
   case rel => exact ⟨_, (true), (by first | rfl | (simp; done) | exact congrArg Value.bool (nemp _) | exact congrArg Value.bool (emp _) | (simp [*]; done)), H', ⟨by first | omega | exact Nat.le_refl _⟩, ⟨by repeat (first | (with_reducible first | exact HB.out | apply below_alloc | apply pw_below_drewN | apply below_drew1) | exact HB.out)⟩⟩
  rw [if_neg c3] at H
  have c3b0 : ((l0.length : Int) == 0) = false := beq_eq_false_iff_ne.mpr c3
  have c3b1 : ((l0.length : Int) != 0) = true := bne_iff_ne.mpr c3
  have c3b2 : ¬ (l0 = []) := fun h_ => c3 (by rw [h_]; rfl)
  (first | rw [c3b0] | (simp only [i64_w, i32_w]; rw [c3b0]) | (have h_ := c3b0; rw [List.beq_nil_eq] at h_; rw [h_]) | skip)
  have H' := Aside0.mk H
  clear H
  go_wp2
  repeat (go_quiet (fail); try go_wp2)
  go_meet
  case rel => exact ⟨_, (decide ((l0.length : Int) > 1000)), (by first | rfl | (simp; done) | exact congrArg Value.bool (nemp _) | exact congrArg Value.bool (emp _) | (simp [*]; done)), H', ⟨by first | omega | exact Nat.le_refl _⟩, ⟨by repeat (first | (with_reducible first | exact HB.out | apply below_alloc | apply pw_below_drewN | apply below_drew1) | exact HB.out)⟩⟩
 case rest =>
  clear HC2
  try clear p2
  try clear c3
  try clear c3b0
  try clear c3b1
  try clear c3b2
  obtain ⟨kq, x14_1, rfl, HA, HJ1, HB⟩ := hcut
  cases kq with
  | zero => exact absurd HA.out (by simp [canon_Right.j0])
  | succ kj1 =>
   have H := HA.out
   clear HA
   simp only [canon_Right.j0] at H
   by_cases c4 : x14_1 = true
   ·subst c4
    have H1 : (some false) = some r := by rw [if_pos rfl] at H; exact H
    clear H
    have H := H1
    clear H1
    obtain rfl := Option.some.inj H
    go_wp2
    repeat (go_quiet (fail); try go_wp2)
    go_ret
    exact ⟨by first | rfl | (simp only [nemp]; rfl) | (simp [errW_none, errW_some] <;> rfl) | (simp [*, errW_none, errW_some] <;> rfl), by repeat (first | (with_reducible first | exact HB.out | apply below_alloc | apply pw_below_drewN | apply below_drew1) | exact HB.out)⟩
   replace c4 := Bool.eq_false_iff.mpr c4
   subst c4
   have H1 : (canon_Right.l0 kj1 l0 ([] : List Int) l0 (l0.length : Int) 0) = some r := by rw [if_neg (show ¬ (false = true) by decide)] at H; exact H
   clear H
   have H := H1
   clear H1
   have H' := Aside0.mk H
   clear H
   go_wp2
   repeat (go_quiet (fail); try go_wp2)
   go_loopg [3, 17] kj1 (fun kq v3 v17 w' => ∃ (x3_2 : List Int) (x17_2 : Int), v17 = .int .i64 x17_2 ∧ Aside0 (canon_Right.l0 kq l0 x3_2 l0 (l0.length : Int) x17_2 = some r) ∧ Aside0 (kq ≤ kj1) ∧ Aside0 (Kd.R (Kd.int .i64) 3 w' w.heap.size (fun _ => True) v3 x3_2) ∧ Aside0 (Below w.heap.size w w'))
   case atStart => exact ⟨(([] : List Int)), (0), (by first | rfl | (simp; done) | exact congrArg Value.bool (nemp _) | exact congrArg Value.bool (emp _) | (simp [*]; done)), H', ⟨Nat.le_refl _⟩, ⟨by first | exact Kd.R_nil _ _ _ _ _ | exact Kd.N_nil _ _ _ _ _ | exact Kd.V_nil _ _ _ _ _ | exact Kd.Q_nil _ _ _ _ _ | exact Kd.S_nil _ _ _ _ _⟩, ⟨by repeat (first | (with_reducible first | exact HB.out | apply below_alloc | apply pw_below_drewN | apply below_drew1) | exact HB.out)⟩⟩
   case round =>
    clear H'
    try clear p2
    try clear c3
    try clear c3b0
    try clear c3b1
    try clear c3b2
    try clear c4
    try clear p2
    obtain ⟨x3_2, x17_2, rfl, HA, HK2, HO_3, HB⟩ := hrel
    cases gk with
    | zero => exact absurd HA.out (by simp [canon_Right.l0])
    | succ k2 =>
     have H := HA.out
     clear HA
     simp only [canon_Right.l0] at H
     by_cases c5 : x17_2 < (l0.length : Int)
     ·rw [if_pos c5] at H
      have c5b0 : decide (x17_2 < (l0.length : Int)) = true := decide_eq_true c5
      clear c5
      by_cases c6 : 0 ≤ x17_2
      ·rw [if_pos c6] at H
       have c6b0 : decide (0 ≤ x17_2) = true := decide_eq_true c6
       clear c6
       by_cases c7 : x17_2 < (l0.length : Int)
       ·rw [if_pos c7] at H
        have c7b0 : decide (x17_2 < (l0.length : Int)) = true := decide_eq_true c7
        clear c7
        have H' := Aside0.mk H
        clear H
        have p120 : 0 ≤ (x17_2 : Int) := of_decide_eq_true (by first | (with_reducible assumption) | assumption)
        have q120 : x17_2 < (l0.length : Int) := of_decide_eq_true (by first | (with_reducible assumption) | assumption)
        obtain ⟨ad120, A120_4, c120_4, e120, hx120_0, hx120_1, hx120_2, hx120_3, hx120_4, hx120_5, hl120_4, hi120_4⟩ := at_T32 HR0.out x17_2 p120 q120
        cases e120
        replace hx120_0 := (HB.out.cell (World.block_lt_of_cell? w _ hx120_0)).trans hx120_0
        replace hx120_1 := (HB.out.cell (World.block_lt_of_cell? w _ hx120_1)).trans hx120_1
        replace hx120_2 := (HB.out.cell (World.block_lt_of_cell? w _ hx120_2)).trans hx120_2
        replace hx120_3 := (HB.out.cell (World.block_lt_of_cell? w _ hx120_3)).trans hx120_3
        replace hx120_4 := (HB.out.cell (World.block_lt_of_cell? w _ hx120_4)).trans hx120_4
        replace hx120_5 := (HB.out.cell (World.block_lt_of_cell? w _ hx120_5)).trans hx120_5
        have HR120_4 := Aside0.mk hi120_4
        have HC120_4 := Aside0.mk hl120_4
        clear hi120_4 hl120_4
        replace p120 := eq_true p120
        replace q120 := eq_true q120
        go_wp2_with (first | ((with_reducible refine gate_dst (N := 5) rfl ?_); (try (refine gate_guard (by rfl) ?_; dsimp only)); refine box_event ?hg (N := 5) ?hd (cs := #[.int .i64 0, .int .i64 0, .string (⟨#[]⟩ : ByteArray), .string (⟨#[]⟩ : ByteArray), .slice none 0 0, .string (⟨#[]⟩ : ByteArray)]) (t := 32) ?hr ?_; (case hd => rfl); (case hg => rfl); (case hr => first | (go_simp; done) | (go_simp; rfl)); intro gb121 hg w8 hbox hb; have n0_ := Aside0.mk (Kd.R_below (by (with_reducible repeat (first | apply Kd.R_alloc | apply Kd.R_drewN | apply Kd.R_drew)); exact HO_3.out) hb); have n1_ := Aside0.mk (below_step (by repeat (first | (with_reducible first | exact HB.out | apply below_alloc | apply pw_below_drewN | apply below_drew1) | exact HB.out)) hb); have n2_ := Aside0.mk (hbox); have n3_ := Aside0.mk ((by rw [hg]; exact (below_size (by repeat (first | (with_reducible first | exact HB.out | apply below_alloc | apply pw_below_drewN | apply below_drew1) | exact HB.out))) : w.heap.size ≤ gb121)); have n4_ := Aside0.mk ((by rw [hg]; exact (below_size (by repeat (first | (with_reducible first | exact HB.out | apply below_alloc | apply pw_below_drewN | apply below_drew1) | exact HB.out))) : w.heap.size ≤ gb121)); clear HO_3; clear HB; have HO_3 := n0_; have HB := n1_; have BK121 := n2_; have GW121 := n3_; have GE121 := n4_; clear n0_ n1_ n2_ n3_ n4_; clear hb hbox hg; have hcz9_0 : w8.cell? ⟨gb121, 0, none⟩ = some (.int .i64 0) := (blk_cell BK121.out 0).trans rfl; have hcz9_1 : w8.cell? ⟨gb121, 1, none⟩ = some (.int .i64 0) := (blk_cell BK121.out 1).trans rfl; have hcz9_2 : w8.cell? ⟨gb121, 2, none⟩ = some (.string (⟨#[]⟩ : ByteArray)) := (blk_cell BK121.out 2).trans rfl; have hcz9_3 : w8.cell? ⟨gb121, 3, none⟩ = some (.string (⟨#[]⟩ : ByteArray)) := (blk_cell BK121.out 3).trans rfl; have hcz9_4 : w8.cell? ⟨gb121, 4, none⟩ = some (.slice none 0 0) := (blk_cell BK121.out 4).trans rfl; have hcz9_5 : w8.cell? ⟨gb121, 5, none⟩ = some (.string (⟨#[]⟩ : ByteArray)) := (blk_cell BK121.out 5).trans rfl; have hfz9_0 := blk_frozen BK121.out 0; have hfz9_1 := blk_frozen BK121.out 1; have hfz9_2 := blk_frozen BK121.out 2; have hfz9_3 := blk_frozen BK121.out 3; have hfz9_4 := blk_frozen BK121.out 4; have hfz9_5 := blk_frozen BK121.out 5))
        repeat (go_quiet (first | ((with_reducible refine gate_dst (N := 5) rfl ?_); (try (refine gate_guard (by rfl) ?_; dsimp only)); refine box_event ?hg (N := 5) ?hd (cs := #[.int .i64 0, .int .i64 0, .string (⟨#[]⟩ : ByteArray), .string (⟨#[]⟩ : ByteArray), .slice none 0 0, .string (⟨#[]⟩ : ByteArray)]) (t := 32) ?hr ?_; (case hd => rfl); (case hg => rfl); (case hr => first | (go_simp; done) | (go_simp; rfl)); intro gb121 hg w8 hbox hb; have n0_ := Aside0.mk (Kd.R_below (by (with_reducible repeat (first | apply Kd.R_alloc | apply Kd.R_drewN | apply Kd.R_drew)); exact HO_3.out) hb); have n1_ := Aside0.mk (below_step (by repeat (first | (with_reducible first | exact HB.out | apply below_alloc | apply pw_below_drewN | apply below_drew1) | exact HB.out)) hb); have n2_ := Aside0.mk (hbox); have n3_ := Aside0.mk ((by rw [hg]; exact (below_size (by repeat (first | (with_reducible first | exact HB.out | apply below_alloc | apply pw_below_drewN | apply below_drew1) | exact HB.out))) : w.heap.size ≤ gb121)); have n4_ := Aside0.mk ((by rw [hg]; exact (below_size (by repeat (first | (with_reducible first | exact HB.out | apply below_alloc | apply pw_below_drewN | apply below_drew1) | exact HB.out))) : w.heap.size ≤ gb121)); clear HO_3; clear HB; have HO_3 := n0_; have HB := n1_; have BK121 := n2_; have GW121 := n3_; have GE121 := n4_; clear n0_ n1_ n2_ n3_ n4_; clear hb hbox hg; have hcz9_0 : w8.cell? ⟨gb121, 0, none⟩ = some (.int .i64 0) := (blk_cell BK121.out 0).trans rfl; have hcz9_1 : w8.cell? ⟨gb121, 1, none⟩ = some (.int .i64 0) := (blk_cell BK121.out 1).trans rfl; have hcz9_2 : w8.cell? ⟨gb121, 2, none⟩ = some (.string (⟨#[]⟩ : ByteArray)) := (blk_cell BK121.out 2).trans rfl; have hcz9_3 : w8.cell? ⟨gb121, 3, none⟩ = some (.string (⟨#[]⟩ : ByteArray)) := (blk_cell BK121.out 3).trans rfl; have hcz9_4 : w8.cell? ⟨gb121, 4, none⟩ = some (.slice none 0 0) := (blk_cell BK121.out 4).trans rfl; have hcz9_5 : w8.cell? ⟨gb121, 5, none⟩ = some (.string (⟨#[]⟩ : ByteArray)) := (blk_cell BK121.out 5).trans rfl; have hfz9_0 := blk_frozen BK121.out 0; have hfz9_1 := blk_frozen BK121.out 1; have hfz9_2 := blk_frozen BK121.out 2; have hfz9_3 := blk_frozen BK121.out 3; have hfz9_4 := blk_frozen BK121.out 4; have hfz9_5 := blk_frozen BK121.out 5)); try go_wp2_with (first | ((with_reducible refine gate_dst (N := 5) rfl ?_); (try (refine gate_guard (by rfl) ?_; dsimp only)); refine box_event ?hg (N := 5) ?hd (cs := #[.int .i64 0, .int .i64 0, .string (⟨#[]⟩ : ByteArray), .string (⟨#[]⟩ : ByteArray), .slice none 0 0, .string (⟨#[]⟩ : ByteArray)]) (t := 32) ?hr ?_; (case hd => rfl); (case hg => rfl); (case hr => first | (go_simp; done) | (go_simp; rfl)); intro gb121 hg w8 hbox hb; have n0_ := Aside0.mk (Kd.R_below (by (with_reducible repeat (first | apply Kd.R_alloc | apply Kd.R_drewN | apply Kd.R_drew)); exact HO_3.out) hb); have n1_ := Aside0.mk (below_step (by repeat (first | (with_reducible first | exact HB.out | apply below_alloc | apply pw_below_drewN | apply below_drew1) | exact HB.out)) hb); have n2_ := Aside0.mk (hbox); have n3_ := Aside0.mk ((by rw [hg]; exact (below_size (by repeat (first | (with_reducible first | exact HB.out | apply below_alloc | apply pw_below_drewN | apply below_drew1) | exact HB.out))) : w.heap.size ≤ gb121)); have n4_ := Aside0.mk ((by rw [hg]; exact (below_size (by repeat (first | (with_reducible first | exact HB.out | apply below_alloc | apply pw_below_drewN | apply below_drew1) | exact HB.out))) : w.heap.size ≤ gb121)); clear HO_3; clear HB; have HO_3 := n0_; have HB := n1_; have BK121 := n2_; have GW121 := n3_; have GE121 := n4_; clear n0_ n1_ n2_ n3_ n4_; clear hb hbox hg; have hcz9_0 : w8.cell? ⟨gb121, 0, none⟩ = some (.int .i64 0) := (blk_cell BK121.out 0).trans rfl; have hcz9_1 : w8.cell? ⟨gb121, 1, none⟩ = some (.int .i64 0) := (blk_cell BK121.out 1).trans rfl; have hcz9_2 : w8.cell? ⟨gb121, 2, none⟩ = some (.string (⟨#[]⟩ : ByteArray)) := (blk_cell BK121.out 2).trans rfl; have hcz9_3 : w8.cell? ⟨gb121, 3, none⟩ = some (.string (⟨#[]⟩ : ByteArray)) := (blk_cell BK121.out 3).trans rfl; have hcz9_4 : w8.cell? ⟨gb121, 4, none⟩ = some (.slice none 0 0) := (blk_cell BK121.out 4).trans rfl; have hcz9_5 : w8.cell? ⟨gb121, 5, none⟩ = some (.string (⟨#[]⟩ : ByteArray)) := (blk_cell BK121.out 5).trans rfl; have hfz9_0 := blk_frozen BK121.out 0; have hfz9_1 := blk_frozen BK121.out 1; have hfz9_2 := blk_frozen BK121.out 2; have hfz9_3 := blk_frozen BK121.out 3; have hfz9_4 := blk_frozen BK121.out 4; have hfz9_5 := blk_frozen BK121.out 5)))
        go_loopg [3] k2 (fun kq v3 w' => ∃ (x3_3 : List Int), Aside0 (canon_Right.l1 kq l0 x3_3 x17_2 l0 (l0.length : Int) x17_2 ((rd_T32 l0 x17_2).f0) ((rd_T32 l0 x17_2).f1) ((rd_T32 l0 x17_2).f2) ((rd_T32 l0 x17_2).f3) ((rd_T32 l0 x17_2).f4) ((rd_T32 l0 x17_2).f5) = some r) ∧ Aside0 (kq ≤ k2) ∧ Aside0 (Kd.R (Kd.int .i64) 3 w' w.heap.size (fun _ => True) v3 x3_3) ∧ Aside0 (w'.heap[gb121]? = some (.cells #[.int .i64 ((rd_T32 l0 x17_2).f0), .int .i64 ((rd_T32 l0 x17_2).f1), .string ((rd_T32 l0 x17_2).f2), .string ((rd_T32 l0 x17_2).f3), (.slice A120_4 ((rd_T32 l0 x17_2).f4).length c120_4), .string ((rd_T32 l0 x17_2).f5)] 32 (0, 0))) ∧ Aside0 (Below w.heap.size w w'))
        case atStart => exact ⟨(x3_2), H', ⟨Nat.le_refl _⟩, ⟨by (with_reducible repeat (first | apply Kd.R_alloc | apply Kd.R_drewN | apply Kd.R_drew)); exact Kd.R_mono (Kd.R_far (p := ⟨gb121, 5, none⟩) (Kd.R_far (p := ⟨gb121, 4, none⟩) (Kd.R_far (p := ⟨gb121, 3, none⟩) (Kd.R_far (p := ⟨gb121, 2, none⟩) (Kd.R_far (p := ⟨gb121, 1, none⟩) (Kd.R_far (p := ⟨gb121, 0, none⟩) (Kd.R_types HO_3.out BK121.out (by decide)) (fun _ hk => hk.2) (.int .i64 ((rd_T32 l0 x17_2).f0))) (fun _ hk => hk.2) (.int .i64 ((rd_T32 l0 x17_2).f1))) (fun _ hk => hk.2) (.string ((rd_T32 l0 x17_2).f2))) (fun _ hk => hk.2) (.string ((rd_T32 l0 x17_2).f3))) (fun _ hk => hk.2) (.slice A120_4 ((rd_T32 l0 x17_2).f4).length c120_4)) (fun _ hk => hk.2) (.string ((rd_T32 l0 x17_2).f5))) (fun _ hk => trivial)⟩, ⟨by (with_reducible repeat (first | refine blk_drewN ?_ _ | refine blk_drew ?_ | refine blk_alloc ?_ _)); refine blk_put (cs := #[.int .i64 ((rd_T32 l0 x17_2).f0), .int .i64 ((rd_T32 l0 x17_2).f1), .string ((rd_T32 l0 x17_2).f2), .string ((rd_T32 l0 x17_2).f3), .slice A120_4 ((rd_T32 l0 x17_2).f4).length c120_4, .string (⟨#[]⟩ : ByteArray)]) ?_ 5 _ rfl; (with_reducible repeat (first | refine blk_drewN ?_ _ | refine blk_drew ?_ | refine blk_alloc ?_ _)); refine blk_put (cs := #[.int .i64 ((rd_T32 l0 x17_2).f0), .int .i64 ((rd_T32 l0 x17_2).f1), .string ((rd_T32 l0 x17_2).f2), .string ((rd_T32 l0 x17_2).f3), .slice none 0 0, .string (⟨#[]⟩ : ByteArray)]) ?_ 4 _ rfl; (with_reducible repeat (first | refine blk_drewN ?_ _ | refine blk_drew ?_ | refine blk_alloc ?_ _)); refine blk_put (cs := #[.int .i64 ((rd_T32 l0 x17_2).f0), .int .i64 ((rd_T32 l0 x17_2).f1), .string ((rd_T32 l0 x17_2).f2), .string (⟨#[]⟩ : ByteArray), .slice none 0 0, .string (⟨#[]⟩ : ByteArray)]) ?_ 3 _ rfl; (with_reducible repeat (first | refine blk_drewN ?_ _ | refine blk_drew ?_ | refine blk_alloc ?_ _)); refine blk_put (cs := #[.int .i64 ((rd_T32 l0 x17_2).f0), .int .i64 ((rd_T32 l0 x17_2).f1), .string (⟨#[]⟩ : ByteArray), .string (⟨#[]⟩ : ByteArray), .slice none 0 0, .string (⟨#[]⟩ : ByteArray)]) ?_ 2 _ rfl; (with_reducible repeat (first | refine blk_drewN ?_ _ | refine blk_drew ?_ | refine blk_alloc ?_ _)); refine blk_put (cs := #[.int .i64 ((rd_T32 l0 x17_2).f0), .int .i64 0, .string (⟨#[]⟩ : ByteArray), .string (⟨#[]⟩ : ByteArray), .slice none 0 0, .string (⟨#[]⟩ : ByteArray)]) ?_ 1 _ rfl; (with_reducible repeat (first | refine blk_drewN ?_ _ | refine blk_drew ?_ | refine blk_alloc ?_ _)); refine blk_put (cs := #[.int .i64 0, .int .i64 0, .string (⟨#[]⟩ : ByteArray), .string (⟨#[]⟩ : ByteArray), .slice none 0 0, .string (⟨#[]⟩ : ByteArray)]) ?_ 0 _ rfl; (with_reducible repeat (first | refine blk_drewN ?_ _ | refine blk_drew ?_ | refine blk_alloc ?_ _)); exact BK121.out⟩, ⟨by repeat (first | (with_reducible first | exact HB.out | apply below_alloc | apply pw_below_drewN | apply below_drew1 | refine below_set ?_ GE121.out) | exact HB.out)⟩⟩
        case round =>
         clear H'
         try clear c1
         try clear p1
         try clear q1
         try clear hx1
         try clear p2
         try clear c3
         try clear c3b0
         try clear c3b1
         try clear c3b2
         try clear c4
         try clear c5
         try clear c5b0
         try clear c6
         try clear c6b0
         try clear c7
         try clear c7b0
         try clear c9
         try clear hcz9_0
         try clear hcz9_1
         try clear hcz9_2
         try clear hcz9_3
         try clear hcz9_4
         try clear hcz9_5
         try clear hfz9_0
         try clear hfz9_1
         try clear hfz9_2
         try clear hfz9_3
         try clear hfz9_4
         try clear hfz9_5
         try clear hx120_0
         try clear hx120_1
         try clear hx120_2
         try clear hx120_3
         try clear hx120_4
         try clear hx120_5
         try clear p120
         try clear p2
         try clear q120
         obtain ⟨x3_3, HA, HK3, HO_3, BK121, HB⟩ := hrel
         cases gk with
         | zero => exact absurd HA.out (by simp [canon_Right.l1])
         | succ k3 =>
          have H := HA.out
          clear HA
          simp only [canon_Right.l1] at H
          by_cases c10 : (x3_3.length : Int) > 0
          ·rw [if_pos c10] at H
           have c10b0 : decide (0 < (x3_3.length : Int)) = true := decide_eq_true c10
           have c10b1 : decide (0 < x3_3.length) = true := decide_eq_true (by omega)
           clear c10
           obtain ⟨ji11, hji11⟩ : ∃ j_ : Int, (wrap64 ((x3_3.length : Int) - 1)) = j_ := ⟨_, rfl⟩
           replace H : (if 0 ≤ (ji11) then (if (ji11) < (x3_3.length : Int) then (if (rd x3_3 (ji11)) = ((rd_T32 l0 x17_2).f0) then (if ((decide ((x3_3.length : Int) > 0)) != (decide (x17_2 > 0))) = true then (some false) else ((canon_alone.f ((rd_T32 l0 x17_2).f0) ((rd_T32 l0 x17_2).f1) ((rd_T32 l0 x17_2).f2) ((rd_T32 l0 x17_2).f3) ((rd_T32 l0 x17_2).f4) ((rd_T32 l0 x17_2).f5)).bind fun t123 => (if t123 = true then (if (x3_3.length : Int) ≥ 12 then (some false) else (if 0 ≤ ((rd_T32 l0 x17_2).f0) then (if ((rd_T32 l0 x17_2).f0) < (l0.length : Int) then (if ((rd_T32 l0 ((rd_T32 l0 x17_2).f0)).f5).toList = ([] : List UInt8) then (if x3_3.length < 17592186044416 then (canon_Right.l0 k3 l0 (x3_3 ++ [x17_2]) l0 (l0.length : Int) (wrap64 (x17_2 + 1))) else (none)) else (some false)) else (none)) else (none))) else (some false)))) else (if (ji11) ≤ (x3_3.length : Int) then (canon_Right.l1 k3 l0 (x3_3.take ((ji11) : Int).toNat) x17_2 l0 (l0.length : Int) x17_2 ((rd_T32 l0 x17_2).f0) ((rd_T32 l0 x17_2).f1) ((rd_T32 l0 x17_2).f2) ((rd_T32 l0 x17_2).f3) ((rd_T32 l0 x17_2).f4) ((rd_T32 l0 x17_2).f5)) else (none))) else (none)) else (none)) = some r := by first | (rw [hji11] at H; exact H) | (simp only [hji11] at H ⊢; exact H)
           have hji11w : (IntKind.i64.wrap ((x3_3.length : Int) - 1)) = ji11 := (i64_w _).trans hji11
           by_cases c12 : 0 ≤ (ji11)
           ·rw [if_pos c12] at H
            have c12b0 : decide (0 ≤ (ji11)) = true := decide_eq_true c12
            clear c12
            by_cases c13 : (ji11) < (x3_3.length : Int)
            ·rw [if_pos c13] at H
             have c13b0 : decide ((ji11) < (x3_3.length : Int)) = true := decide_eq_true c13
             clear c13
             by_cases c14 : (rd x3_3 (ji11)) = ((rd_T32 l0 x17_2).f0)
             ·rw [if_pos c14] at H
              have c14b0 : ((rd x3_3 (ji11)) == ((rd_T32 l0 x17_2).f0)) = true := beq_iff_eq.mpr c14
              have c14b1 : ((rd x3_3 (ji11)) != ((rd_T32 l0 x17_2).f0)) = false := bne_eq_false_iff_eq.mpr c14
              clear c14
              by_cases c15 : ((decide ((x3_3.length : Int) > 0)) != (decide (x17_2 > 0))) = true
              ·rw [if_pos c15] at H
               have c15b0 : ((decide ((x3_3.length : Int) > 0)) != (decide (x17_2 > 0))) = true := c15
               (try (have c15b1 : decide ((decide ((x3_3.length : Int) > 0)) = (decide (x17_2 > 0))) = false := by simpa using c15))
               (try (have c15b2 : ((decide ((x3_3.length : Int) > 0)) == (decide (x17_2 > 0))) = false := by simpa using c15))
               (try (have c15b3 : ¬ ((decide ((x3_3.length : Int) > 0)) = (decide (x17_2 > 0))) := by simpa using c15))
               (try (have c15b4 : decide (0 < x17_2) = false := by have h_ : decide ((x3_3.length : Int) > 0) = true := (by assumption); rw [h_] at c15; revert c15; cases decide (x17_2 > 0) <;> decide))
               (try (have c15b5 : decide (0 < x17_2) = true := by have h_ : decide ((x3_3.length : Int) > 0) = false := (by assumption); rw [h_] at c15; revert c15; cases decide (x17_2 > 0) <;> decide))
               (try (have c15b6 : decide (0 < (x3_3.length : Int)) = false := by have h_ : decide (x17_2 > 0) = true := (by assumption); rw [h_] at c15; revert c15; cases decide ((x3_3.length : Int) > 0) <;> decide))
               (try (have c15b7 : decide (0 < (x3_3.length : Int)) = true := by have h_ : decide (x17_2 > 0) = false := (by assumption); rw [h_] at c15; revert c15; cases decide ((x3_3.length : Int) > 0) <;> decide))
               clear c15
               obtain rfl := Option.some.inj H
               obtain ⟨Ao16, co16, eo16⟩ := Kd.R_slice HO_3.out
               subst eo16
               have p122 : 0 ≤ ((ji11) : Int) := of_decide_eq_true (by first | (with_reducible assumption) | assumption)
               have q122 : (ji11) < (x3_3.length : Int) := of_decide_eq_true (by first | (with_reducible assumption) | assumption)
               obtain ⟨ad122, e122, hx122_0⟩ := Kd.at_int (Kd.R_reads' HO_3.out).2.2 (ji11) p122 q122
               cases e122
               replace p122 := eq_true p122
               replace q122 := eq_true q122
               have hcz17_0 : wr.cell? ⟨gb121, 0, none⟩ = some (.int .i64 ((rd_T32 l0 x17_2).f0)) := (blk_cell BK121.out 0).trans rfl
               have hcz17_1 : wr.cell? ⟨gb121, 1, none⟩ = some (.int .i64 ((rd_T32 l0 x17_2).f1)) := (blk_cell BK121.out 1).trans rfl
               have hcz17_2 : wr.cell? ⟨gb121, 2, none⟩ = some (.string ((rd_T32 l0 x17_2).f2)) := (blk_cell BK121.out 2).trans rfl
               have hcz17_3 : wr.cell? ⟨gb121, 3, none⟩ = some (.string ((rd_T32 l0 x17_2).f3)) := (blk_cell BK121.out 3).trans rfl
               have hcz17_4 : wr.cell? ⟨gb121, 4, none⟩ = some (.slice A120_4 ((rd_T32 l0 x17_2).f4).length c120_4) := (blk_cell BK121.out 4).trans rfl
               have hcz17_5 : wr.cell? ⟨gb121, 5, none⟩ = some (.string ((rd_T32 l0 x17_2).f5)) := (blk_cell BK121.out 5).trans rfl
               have hfz17_0 := blk_frozen BK121.out 0
               have hfz17_1 := blk_frozen BK121.out 1
               have hfz17_2 := blk_frozen BK121.out 2
               have hfz17_3 := blk_frozen BK121.out 3
               have hfz17_4 := blk_frozen BK121.out 4
               have hfz17_5 := blk_frozen BK121.out 5
               go_wp2
               repeat (go_quiet (fail); try go_wp2)
               go_ret
               exact ⟨by first | rfl | (simp only [nemp]; rfl) | (simp [errW_none, errW_some] <;> rfl) | (simp only [← hji11]; first | rfl | (simp [errW_none, errW_some] <;> rfl)) | (simp [*, errW_none, errW_some] <;> rfl), by repeat (first | (with_reducible first | exact HB.out | apply below_alloc | apply pw_below_drewN | apply below_drew1 | refine below_set ?_ GE121.out) | exact HB.out)⟩
              rw [if_neg c15] at H
              have c15b0 : ((decide ((x3_3.length : Int) > 0)) != (decide (x17_2 > 0))) = false := by simpa using c15
              (try (have c15b1 : decide ((decide ((x3_3.length : Int) > 0)) = (decide (x17_2 > 0))) = true := by simpa using c15))
              (try (have c15b2 : ((decide ((x3_3.length : Int) > 0)) == (decide (x17_2 > 0))) = true := by simpa using c15))
              (try (have c15b3 : decide (0 < x17_2) = true := by have h_ : decide ((x3_3.length : Int) > 0) = true := (by assumption); rw [h_] at c15; revert c15; cases decide (x17_2 > 0) <;> decide))
              (try (have c15b4 : decide (0 < x17_2) = false := by have h_ : decide ((x3_3.length : Int) > 0) = false := (by assumption); rw [h_] at c15; revert c15; cases decide (x17_2 > 0) <;> decide))
              (try (have c15b5 : decide (0 < (x3_3.length : Int)) = true := by have h_ : decide (x17_2 > 0) = true := (by assumption); rw [h_] at c15; revert c15; cases decide ((x3_3.length : Int) > 0) <;> decide))
              (try (have c15b6 : decide (0 < (x3_3.length : Int)) = false := by have h_ : decide (x17_2 > 0) = false := (by assumption); rw [h_] at c15; revert c15; cases decide ((x3_3.length : Int) > 0) <;> decide))
              clear c15
              replace H := Option.bind_eq_some_iff.mp H
              obtain ⟨t123, A180, H⟩ := H
              replace H : (if t123 = true then (if (x3_3.length : Int) ≥ 12 then (some false) else (if 0 ≤ ((rd_T32 l0 x17_2).f0) then (if ((rd_T32 l0 x17_2).f0) < (l0.length : Int) then (if ((rd_T32 l0 ((rd_T32 l0 x17_2).f0)).f5).toList = ([] : List UInt8) then (if x3_3.length < 17592186044416 then (canon_Right.l0 k3 l0 (x3_3 ++ [x17_2]) l0 (l0.length : Int) (wrap64 (x17_2 + 1))) else (none)) else (some false)) else (none)) else (none))) else (some false)) = some r := H
              have A18 := Aside0.mk A180
              clear A180
              by_cases c19 : t123 = true
              ·subst c19
               have H1 : (if (x3_3.length : Int) ≥ 12 then (some false) else (if 0 ≤ ((rd_T32 l0 x17_2).f0) then (if ((rd_T32 l0 x17_2).f0) < (l0.length : Int) then (if ((rd_T32 l0 ((rd_T32 l0 x17_2).f0)).f5).toList = ([] : List UInt8) then (if x3_3.length < 17592186044416 then (canon_Right.l0 k3 l0 (x3_3 ++ [x17_2]) l0 (l0.length : Int) (wrap64 (x17_2 + 1))) else (none)) else (some false)) else (none)) else (none))) = some r := by rw [if_pos rfl] at H; exact H
               clear H
               have H := H1
               clear H1
               by_cases c20 : (x3_3.length : Int) ≥ 12
               ·rw [if_pos c20] at H
                have c20b0 : decide (12 ≤ (x3_3.length : Int)) = true := decide_eq_true c20
                have c20b1 : decide (12 ≤ x3_3.length) = true := decide_eq_true (by omega)
                clear c20
                obtain rfl := Option.some.inj H
                obtain ⟨Ao21, co21, eo21⟩ := Kd.R_slice HO_3.out
                subst eo21
                have p122 : 0 ≤ ((ji11) : Int) := of_decide_eq_true (by first | (with_reducible assumption) | assumption)
                have q122 : (ji11) < (x3_3.length : Int) := of_decide_eq_true (by first | (with_reducible assumption) | assumption)
                obtain ⟨ad122, e122, hx122_0⟩ := Kd.at_int (Kd.R_reads' HO_3.out).2.2 (ji11) p122 q122
                cases e122
                replace p122 := eq_true p122
                replace q122 := eq_true q122
                have hcz22_0 : wr.cell? ⟨gb121, 0, none⟩ = some (.int .i64 ((rd_T32 l0 x17_2).f0)) := (blk_cell BK121.out 0).trans rfl
                have hcz22_1 : wr.cell? ⟨gb121, 1, none⟩ = some (.int .i64 ((rd_T32 l0 x17_2).f1)) := (blk_cell BK121.out 1).trans rfl
                have hcz22_2 : wr.cell? ⟨gb121, 2, none⟩ = some (.string ((rd_T32 l0 x17_2).f2)) := (blk_cell BK121.out 2).trans rfl
                have hcz22_3 : wr.cell? ⟨gb121, 3, none⟩ = some (.string ((rd_T32 l0 x17_2).f3)) := (blk_cell BK121.out 3).trans rfl
                have hcz22_4 : wr.cell? ⟨gb121, 4, none⟩ = some (.slice A120_4 ((rd_T32 l0 x17_2).f4).length c120_4) := (blk_cell BK121.out 4).trans rfl
                have hcz22_5 : wr.cell? ⟨gb121, 5, none⟩ = some (.string ((rd_T32 l0 x17_2).f5)) := (blk_cell BK121.out 5).trans rfl
                have hfz22_0 := blk_frozen BK121.out 0
                have hfz22_1 := blk_frozen BK121.out 1
                have hfz22_2 := blk_frozen BK121.out 2
                have hfz22_3 := blk_frozen BK121.out 3
                have hfz22_4 := blk_frozen BK121.out 4
                have hfz22_5 := blk_frozen BK121.out 5
                go_wp2_with (first | (go_at_call 17; (with_reducible refine (canon_alone.calls ((rd_T32 l0 x17_2).f0) ((rd_T32 l0 x17_2).f1) ((rd_T32 l0 x17_2).f2) ((rd_T32 l0 x17_2).f3) _ _ ((rd_T32 l0 x17_2).f4) ((rd_T32 l0 x17_2).f5) true _ ?side1 ?side2 A18.out (tabs_b HT.out (by repeat (first | (with_reducible first | exact HB.out | apply below_alloc | apply pw_below_drewN | apply below_drew1 | refine below_set ?_ GE121.out) | exact HB.out)))).mono ?_); (case side1 => repeat (first | exact (Kd.C_below HR120_4.out HB.out) | (with_reducible refine Kd.C_alloc ?_ _) | (with_reducible refine Kd.C_drewN ?_ _) | (with_reducible refine Kd.C_drew ?_))); (case side2 => exact HC120_4.out); rintro e w23 ⟨rfl, hb⟩; have n0_ := Aside0.mk (Kd.R_below (by (with_reducible repeat (first | apply Kd.R_alloc | apply Kd.R_drewN | apply Kd.R_drew)); exact HO_3.out) hb); have n1_ := Aside0.mk (blk_below (g := gb121) (o := .cells #[.int .i64 ((rd_T32 l0 x17_2).f0), .int .i64 ((rd_T32 l0 x17_2).f1), .string ((rd_T32 l0 x17_2).f2), .string ((rd_T32 l0 x17_2).f3), .slice A120_4 ((rd_T32 l0 x17_2).f4).length c120_4, .string ((rd_T32 l0 x17_2).f5)] 32 (0, 0)) (by (with_reducible repeat (first | refine blk_drewN ?_ _ | refine blk_drew ?_ | refine blk_alloc ?_ _)); exact BK121.out) hb); have n2_ := Aside0.mk (below_step (by repeat (first | (with_reducible first | exact HB.out | apply below_alloc | apply pw_below_drewN | apply below_drew1 | refine below_set ?_ GE121.out) | exact HB.out)) hb); clear HO_3; clear BK121; clear HB; have HO_3 := n0_; have BK121 := n1_; have HB := n2_; clear n0_ n1_ n2_; (try clear hb); (try clear hb2); (try clear hk); (try clear hi)))
                repeat (go_quiet (first | (go_at_call 17; (with_reducible refine (canon_alone.calls ((rd_T32 l0 x17_2).f0) ((rd_T32 l0 x17_2).f1) ((rd_T32 l0 x17_2).f2) ((rd_T32 l0 x17_2).f3) _ _ ((rd_T32 l0 x17_2).f4) ((rd_T32 l0 x17_2).f5) true _ ?side1 ?side2 A18.out (tabs_b HT.out (by repeat (first | (with_reducible first | exact HB.out | apply below_alloc | apply pw_below_drewN | apply below_drew1 | refine below_set ?_ GE121.out) | exact HB.out)))).mono ?_); (case side1 => repeat (first | exact (Kd.C_below HR120_4.out HB.out) | (with_reducible refine Kd.C_alloc ?_ _) | (with_reducible refine Kd.C_drewN ?_ _) | (with_reducible refine Kd.C_drew ?_))); (case side2 => exact HC120_4.out); rintro e w23 ⟨rfl, hb⟩; have n0_ := Aside0.mk (Kd.R_below (by (with_reducible repeat (first | apply Kd.R_alloc | apply Kd.R_drewN | apply Kd.R_drew)); exact HO_3.out) hb); have n1_ := Aside0.mk (blk_below (g := gb121) (o := .cells #[.int .i64 ((rd_T32 l0 x17_2).f0), .int .i64 ((rd_T32 l0 x17_2).f1), .string ((rd_T32 l0 x17_2).f2), .string ((rd_T32 l0 x17_2).f3), .slice A120_4 ((rd_T32 l0 x17_2).f4).length c120_4, .string ((rd_T32 l0 x17_2).f5)] 32 (0, 0)) (by (with_reducible repeat (first | refine blk_drewN ?_ _ | refine blk_drew ?_ | refine blk_alloc ?_ _)); exact BK121.out) hb); have n2_ := Aside0.mk (below_step (by repeat (first | (with_reducible first | exact HB.out | apply below_alloc | apply pw_below_drewN | apply below_drew1 | refine below_set ?_ GE121.out) | exact HB.out)) hb); clear HO_3; clear BK121; clear HB; have HO_3 := n0_; have BK121 := n1_; have HB := n2_; clear n0_ n1_ n2_; (try clear hb); (try clear hb2); (try clear hk); (try clear hi))); try go_wp2_with (first | (go_at_call 17; (with_reducible refine (canon_alone.calls ((rd_T32 l0 x17_2).f0) ((rd_T32 l0 x17_2).f1) ((rd_T32 l0 x17_2).f2) ((rd_T32 l0 x17_2).f3) _ _ ((rd_T32 l0 x17_2).f4) ((rd_T32 l0 x17_2).f5) true _ ?side1 ?side2 A18.out (tabs_b HT.out (by repeat (first | (with_reducible first | exact HB.out | apply below_alloc | apply pw_below_drewN | apply below_drew1 | refine below_set ?_ GE121.out) | exact HB.out)))).mono ?_); (case side1 => repeat (first | exact (Kd.C_below HR120_4.out HB.out) | (with_reducible refine Kd.C_alloc ?_ _) | (with_reducible refine Kd.C_drewN ?_ _) | (with_reducible refine Kd.C_drew ?_))); (case side2 => exact HC120_4.out); rintro e w23 ⟨rfl, hb⟩; have n0_ := Aside0.mk (Kd.R_below (by (with_reducible repeat (first | apply Kd.R_alloc | apply Kd.R_drewN | apply Kd.R_drew)); exact HO_3.out) hb); have n1_ := Aside0.mk (blk_below (g := gb121) (o := .cells #[.int .i64 ((rd_T32 l0 x17_2).f0), .int .i64 ((rd_T32 l0 x17_2).f1), .string ((rd_T32 l0 x17_2).f2), .string ((rd_T32 l0 x17_2).f3), .slice A120_4 ((rd_T32 l0 x17_2).f4).length c120_4, .string ((rd_T32 l0 x17_2).f5)] 32 (0, 0)) (by (with_reducible repeat (first | refine blk_drewN ?_ _ | refine blk_drew ?_ | refine blk_alloc ?_ _)); exact BK121.out) hb); have n2_ := Aside0.mk (below_step (by repeat (first | (with_reducible first | exact HB.out | apply below_alloc | apply pw_below_drewN | apply below_drew1 | refine below_set ?_ GE121.out) | exact HB.out)) hb); clear HO_3; clear BK121; clear HB; have HO_3 := n0_; have BK121 := n1_; have HB := n2_; clear n0_ n1_ n2_; (try clear hb); (try clear hb2); (try clear hk); (try clear hi))))
                go_ret
                exact ⟨by first | rfl | (simp only [nemp]; rfl) | (simp [errW_none, errW_some] <;> rfl) | (simp only [← hji11]; first | rfl | (simp [errW_none, errW_some] <;> rfl)) | (simp [*, errW_none, errW_some] <;> rfl), by repeat (first | (with_reducible first | exact HB.out | apply below_alloc | apply pw_below_drewN | apply below_drew1 | refine below_set ?_ GE121.out) | exact HB.out)⟩
               rw [if_neg c20] at H
               have c20b0 : decide (12 ≤ (x3_3.length : Int)) = false := decide_eq_false c20
               have c20b1 : decide (12 ≤ x3_3.length) = false := decide_eq_false (by omega)
               clear c20
               by_cases c24 : 0 ≤ ((rd_T32 l0 x17_2).f0)
               ·rw [if_pos c24] at H
                have c24b0 : decide (0 ≤ ((rd_T32 l0 x17_2).f0)) = true := decide_eq_true c24
                clear c24
                by_cases c25 : ((rd_T32 l0 x17_2).f0) < (l0.length : Int)
                ·rw [if_pos c25] at H
                 have c25b0 : decide (((rd_T32 l0 x17_2).f0) < (l0.length : Int)) = true := decide_eq_true c25
                 clear c25
                 by_cases c26 : ((rd_T32 l0 ((rd_T32 l0 x17_2).f0)).f5).toList = ([] : List UInt8)
                 ·rw [if_pos c26] at H
                  have c26b0 : (((rd_T32 l0 ((rd_T32 l0 x17_2).f0)).f5).toList == ([] : List UInt8)) = true := beq_iff_eq.mpr c26
                  have c26b1 : (((rd_T32 l0 ((rd_T32 l0 x17_2).f0)).f5).toList != ([] : List UInt8)) = false := bne_eq_false_iff_eq.mpr c26
                  clear c26
                  by_cases c27 : x3_3.length < 17592186044416
                  ·rw [if_pos c27] at H
                   have LMc27 := Aside0.mk c27
                   clear c27
                   obtain ⟨y125, hy125⟩ : ∃ y_ : List Int, y_ = (x3_3 ++ [x17_2]) := ⟨_, rfl⟩
                   replace H : (canon_Right.l0 k3 l0 y125 l0 (l0.length : Int) (wrap64 (x17_2 + 1))) = some r := by first | (rw [hy125]; with_reducible exact H) | (have H2_ := (Option.bind_some _ _).symm.trans H; rw [hy125]; with_reducible exact H2_) | (have H2_ := (Option.bind_some _ _).symm.trans H; with_reducible exact H2_) | with_reducible exact H | (rw [hy125]; exact H) | exact H
                   have Ny125 := Aside0.mk hy125
                   clear hy125
                   have H' := Aside0.mk H
                   clear H
                   obtain ⟨Ao28, co28, eo28⟩ := Kd.R_slice HO_3.out
                   subst eo28
                   have p122 : 0 ≤ ((ji11) : Int) := of_decide_eq_true (by first | (with_reducible assumption) | assumption)
                   have q122 : (ji11) < (x3_3.length : Int) := of_decide_eq_true (by first | (with_reducible assumption) | assumption)
                   obtain ⟨ad122, e122, hx122_0⟩ := Kd.at_int (Kd.R_reads' HO_3.out).2.2 (ji11) p122 q122
                   cases e122
                   replace p122 := eq_true p122
                   replace q122 := eq_true q122
                   have hcz29_0 : wr.cell? ⟨gb121, 0, none⟩ = some (.int .i64 ((rd_T32 l0 x17_2).f0)) := (blk_cell BK121.out 0).trans rfl
                   have hcz29_1 : wr.cell? ⟨gb121, 1, none⟩ = some (.int .i64 ((rd_T32 l0 x17_2).f1)) := (blk_cell BK121.out 1).trans rfl
                   have hcz29_2 : wr.cell? ⟨gb121, 2, none⟩ = some (.string ((rd_T32 l0 x17_2).f2)) := (blk_cell BK121.out 2).trans rfl
                   have hcz29_3 : wr.cell? ⟨gb121, 3, none⟩ = some (.string ((rd_T32 l0 x17_2).f3)) := (blk_cell BK121.out 3).trans rfl
                   have hcz29_4 : wr.cell? ⟨gb121, 4, none⟩ = some (.slice A120_4 ((rd_T32 l0 x17_2).f4).length c120_4) := (blk_cell BK121.out 4).trans rfl
                   have hcz29_5 : wr.cell? ⟨gb121, 5, none⟩ = some (.string ((rd_T32 l0 x17_2).f5)) := (blk_cell BK121.out 5).trans rfl
                   have hfz29_0 := blk_frozen BK121.out 0
                   have hfz29_1 := blk_frozen BK121.out 1
                   have hfz29_2 := blk_frozen BK121.out 2
                   have hfz29_3 := blk_frozen BK121.out 3
                   have hfz29_4 := blk_frozen BK121.out 4
                   have hfz29_5 := blk_frozen BK121.out 5
                   go_wp2_with (first | (go_at_call 17; (with_reducible refine (canon_alone.calls ((rd_T32 l0 x17_2).f0) ((rd_T32 l0 x17_2).f1) ((rd_T32 l0 x17_2).f2) ((rd_T32 l0 x17_2).f3) _ _ ((rd_T32 l0 x17_2).f4) ((rd_T32 l0 x17_2).f5) true _ ?side1 ?side2 A18.out (tabs_b HT.out (by repeat (first | (with_reducible first | exact HB.out | apply below_alloc | apply pw_below_drewN | apply below_drew1 | refine below_set ?_ GE121.out) | exact HB.out)))).mono ?_); (case side1 => repeat (first | exact (Kd.C_below HR120_4.out HB.out) | (with_reducible refine Kd.C_alloc ?_ _) | (with_reducible refine Kd.C_drewN ?_ _) | (with_reducible refine Kd.C_drew ?_))); (case side2 => exact HC120_4.out); rintro e w30 ⟨rfl, hb⟩; have n0_ := Aside0.mk (Kd.R_below (by (with_reducible repeat (first | apply Kd.R_alloc | apply Kd.R_drewN | apply Kd.R_drew)); exact HO_3.out) hb); have n1_ := Aside0.mk (blk_below (g := gb121) (o := .cells #[.int .i64 ((rd_T32 l0 x17_2).f0), .int .i64 ((rd_T32 l0 x17_2).f1), .string ((rd_T32 l0 x17_2).f2), .string ((rd_T32 l0 x17_2).f3), .slice A120_4 ((rd_T32 l0 x17_2).f4).length c120_4, .string ((rd_T32 l0 x17_2).f5)] 32 (0, 0)) (by (with_reducible repeat (first | refine blk_drewN ?_ _ | refine blk_drew ?_ | refine blk_alloc ?_ _)); exact BK121.out) hb); have n2_ := Aside0.mk (below_step (by repeat (first | (with_reducible first | exact HB.out | apply below_alloc | apply pw_below_drewN | apply below_drew1 | refine below_set ?_ GE121.out) | exact HB.out)) hb); clear HO_3; clear BK121; clear HB; have HO_3 := n0_; have BK121 := n1_; have HB := n2_; clear n0_ n1_ n2_; (try clear hb); (try clear hb2); (try clear hk); (try clear hi); have hcz31_0 : w30.cell? ⟨gb121, 0, none⟩ = some (.int .i64 ((rd_T32 l0 x17_2).f0)) := (blk_cell BK121.out 0).trans rfl; have hcz31_1 : w30.cell? ⟨gb121, 1, none⟩ = some (.int .i64 ((rd_T32 l0 x17_2).f1)) := (blk_cell BK121.out 1).trans rfl; have hcz31_2 : w30.cell? ⟨gb121, 2, none⟩ = some (.string ((rd_T32 l0 x17_2).f2)) := (blk_cell BK121.out 2).trans rfl; have hcz31_3 : w30.cell? ⟨gb121, 3, none⟩ = some (.string ((rd_T32 l0 x17_2).f3)) := (blk_cell BK121.out 3).trans rfl; have hcz31_4 : w30.cell? ⟨gb121, 4, none⟩ = some (.slice A120_4 ((rd_T32 l0 x17_2).f4).length c120_4) := (blk_cell BK121.out 4).trans rfl; have hcz31_5 : w30.cell? ⟨gb121, 5, none⟩ = some (.string ((rd_T32 l0 x17_2).f5)) := (blk_cell BK121.out 5).trans rfl; have hfz31_0 := blk_frozen BK121.out 0; have hfz31_1 := blk_frozen BK121.out 1; have hfz31_2 := blk_frozen BK121.out 2; have hfz31_3 := blk_frozen BK121.out 3; have hfz31_4 := blk_frozen BK121.out 4; have hfz31_5 := blk_frozen BK121.out 5; have p124 : 0 ≤ (((rd_T32 l0 x17_2).f0) : Int) := of_decide_eq_true (by first | (with_reducible assumption) | assumption); have q124 : ((rd_T32 l0 x17_2).f0) < (l0.length : Int) := of_decide_eq_true (by first | (with_reducible assumption) | assumption); obtain ⟨ad124, A124_4, c124_4, e124, hx124_0, hx124_1, hx124_2, hx124_3, hx124_4, hx124_5, hl124_4, hi124_4⟩ := at_T32 HR0.out ((rd_T32 l0 x17_2).f0) p124 q124; obtain rfl : ad120 = ad124 := (by injection e124); replace hx124_0 := (HB.out.cell (World.block_lt_of_cell? w _ hx124_0)).trans hx124_0; replace hx124_1 := (HB.out.cell (World.block_lt_of_cell? w _ hx124_1)).trans hx124_1; replace hx124_2 := (HB.out.cell (World.block_lt_of_cell? w _ hx124_2)).trans hx124_2; replace hx124_3 := (HB.out.cell (World.block_lt_of_cell? w _ hx124_3)).trans hx124_3; replace hx124_4 := (HB.out.cell (World.block_lt_of_cell? w _ hx124_4)).trans hx124_4; replace hx124_5 := (HB.out.cell (World.block_lt_of_cell? w _ hx124_5)).trans hx124_5; have HR124_4 := Aside0.mk hi124_4; have HC124_4 := Aside0.mk hl124_4; clear hi124_4 hl124_4; replace p124 := eq_true p124; replace q124 := eq_true q124) | ((with_reducible refine gate_builtin (b := .append) (xs := #[.tmp 79, .tmp 81]) rfl ?_); (try (refine gate_guard (by rfl) ?_; dsimp only)); at_builtin; refine Kd.R_append (Kd.int .i64) (w0 := w) w.heap.size rfl (.tmp 79) (.tmp 81) 36 3 (.int .i64 0) 8 rfl Tryd.underlying36 info3 rfl (by decide) (by omega) (.slice (some ad122) x3_3.length co28) x3_3 x17_2 [.int .i64 x17_2] (fun _ => True) (fun _ => False) rfl rfl ?aP (fun _ hk => hk.elim) ?aF ?aO ?aB ?aS ?aL ?_; (case aP => exact rfl); (case aB => exact (by repeat (first | (with_reducible first | exact HB.out | apply below_alloc | apply pw_below_drewN | apply below_drew1 | refine below_set ?_ GE121.out) | exact HB.out))); (case aF => exact (fun _ _ => trivial)); (case aO => exact (by (with_reducible repeat (first | apply Kd.R_alloc | apply Kd.R_drewN | apply Kd.R_drew)); exact HO_3.out)); (case aS => exact (below_size (by repeat (first | (with_reducible first | exact HB.out | apply below_alloc | apply pw_below_drewN | apply below_drew1 | refine below_set ?_ GE121.out) | exact HB.out)))); (case aL => have := LMc27.out; omega); intro v126 w32 ho hb hg hat; rw [← Ny125.out] at ho; have n0_ := Aside0.mk (blk_grown (g := gb121) (o := .cells #[.int .i64 ((rd_T32 l0 x17_2).f0), .int .i64 ((rd_T32 l0 x17_2).f1), .string ((rd_T32 l0 x17_2).f2), .string ((rd_T32 l0 x17_2).f3), .slice A120_4 ((rd_T32 l0 x17_2).f4).length c120_4, .string ((rd_T32 l0 x17_2).f5)] 32 (0, 0)) (by (with_reducible repeat (first | refine blk_drewN ?_ _ | refine blk_drew ?_ | refine blk_alloc ?_ _)); exact BK121.out) hg (Kd.R_ne HO_3.out BK121.out (by decide))); have n1_ := Aside0.mk (hb); have n2_ := Aside0.mk (ho); clear BK121; clear HB; clear HO_3; have BK121 := n0_; have HB := n1_; have HO127 := n2_; clear n0_ n1_ n2_; clear ho hb hg hat))
                   repeat (go_quiet (first | (go_at_call 17; (with_reducible refine (canon_alone.calls ((rd_T32 l0 x17_2).f0) ((rd_T32 l0 x17_2).f1) ((rd_T32 l0 x17_2).f2) ((rd_T32 l0 x17_2).f3) _ _ ((rd_T32 l0 x17_2).f4) ((rd_T32 l0 x17_2).f5) true _ ?side1 ?side2 A18.out (tabs_b HT.out (by repeat (first | (with_reducible first | exact HB.out | apply below_alloc | apply pw_below_drewN | apply below_drew1 | refine below_set ?_ GE121.out) | exact HB.out)))).mono ?_); (case side1 => repeat (first | exact (Kd.C_below HR120_4.out HB.out) | (with_reducible refine Kd.C_alloc ?_ _) | (with_reducible refine Kd.C_drewN ?_ _) | (with_reducible refine Kd.C_drew ?_))); (case side2 => exact HC120_4.out); rintro e w30 ⟨rfl, hb⟩; have n0_ := Aside0.mk (Kd.R_below (by (with_reducible repeat (first | apply Kd.R_alloc | apply Kd.R_drewN | apply Kd.R_drew)); exact HO_3.out) hb); have n1_ := Aside0.mk (blk_below (g := gb121) (o := .cells #[.int .i64 ((rd_T32 l0 x17_2).f0), .int .i64 ((rd_T32 l0 x17_2).f1), .string ((rd_T32 l0 x17_2).f2), .string ((rd_T32 l0 x17_2).f3), .slice A120_4 ((rd_T32 l0 x17_2).f4).length c120_4, .string ((rd_T32 l0 x17_2).f5)] 32 (0, 0)) (by (with_reducible repeat (first | refine blk_drewN ?_ _ | refine blk_drew ?_ | refine blk_alloc ?_ _)); exact BK121.out) hb); have n2_ := Aside0.mk (below_step (by repeat (first | (with_reducible first | exact HB.out | apply below_alloc | apply pw_below_drewN | apply below_drew1 | refine below_set ?_ GE121.out) | exact HB.out)) hb); clear HO_3; clear BK121; clear HB; have HO_3 := n0_; have BK121 := n1_; have HB := n2_; clear n0_ n1_ n2_; (try clear hb); (try clear hb2); (try clear hk); (try clear hi); have hcz31_0 : w30.cell? ⟨gb121, 0, none⟩ = some (.int .i64 ((rd_T32 l0 x17_2).f0)) := (blk_cell BK121.out 0).trans rfl; have hcz31_1 : w30.cell? ⟨gb121, 1, none⟩ = some (.int .i64 ((rd_T32 l0 x17_2).f1)) := (blk_cell BK121.out 1).trans rfl; have hcz31_2 : w30.cell? ⟨gb121, 2, none⟩ = some (.string ((rd_T32 l0 x17_2).f2)) := (blk_cell BK121.out 2).trans rfl; have hcz31_3 : w30.cell? ⟨gb121, 3, none⟩ = some (.string ((rd_T32 l0 x17_2).f3)) := (blk_cell BK121.out 3).trans rfl; have hcz31_4 : w30.cell? ⟨gb121, 4, none⟩ = some (.slice A120_4 ((rd_T32 l0 x17_2).f4).length c120_4) := (blk_cell BK121.out 4).trans rfl; have hcz31_5 : w30.cell? ⟨gb121, 5, none⟩ = some (.string ((rd_T32 l0 x17_2).f5)) := (blk_cell BK121.out 5).trans rfl; have hfz31_0 := blk_frozen BK121.out 0; have hfz31_1 := blk_frozen BK121.out 1; have hfz31_2 := blk_frozen BK121.out 2; have hfz31_3 := blk_frozen BK121.out 3; have hfz31_4 := blk_frozen BK121.out 4; have hfz31_5 := blk_frozen BK121.out 5; have p124 : 0 ≤ (((rd_T32 l0 x17_2).f0) : Int) := of_decide_eq_true (by first | (with_reducible assumption) | assumption); have q124 : ((rd_T32 l0 x17_2).f0) < (l0.length : Int) := of_decide_eq_true (by first | (with_reducible assumption) | assumption); obtain ⟨ad124, A124_4, c124_4, e124, hx124_0, hx124_1, hx124_2, hx124_3, hx124_4, hx124_5, hl124_4, hi124_4⟩ := at_T32 HR0.out ((rd_T32 l0 x17_2).f0) p124 q124; obtain rfl : ad120 = ad124 := (by injection e124); replace hx124_0 := (HB.out.cell (World.block_lt_of_cell? w _ hx124_0)).trans hx124_0; replace hx124_1 := (HB.out.cell (World.block_lt_of_cell? w _ hx124_1)).trans hx124_1; replace hx124_2 := (HB.out.cell (World.block_lt_of_cell? w _ hx124_2)).trans hx124_2; replace hx124_3 := (HB.out.cell (World.block_lt_of_cell? w _ hx124_3)).trans hx124_3; replace hx124_4 := (HB.out.cell (World.block_lt_of_cell? w _ hx124_4)).trans hx124_4; replace hx124_5 := (HB.out.cell (World.block_lt_of_cell? w _ hx124_5)).trans hx124_5; have HR124_4 := Aside0.mk hi124_4; have HC124_4 := Aside0.mk hl124_4; clear hi124_4 hl124_4; replace p124 := eq_true p124; replace q124 := eq_true q124) | ((with_reducible refine gate_builtin (b := .append) (xs := #[.tmp 79, .tmp 81]) rfl ?_); (try (refine gate_guard (by rfl) ?_; dsimp only)); at_builtin; refine Kd.R_append (Kd.int .i64) (w0 := w) w.heap.size rfl (.tmp 79) (.tmp 81) 36 3 (.int .i64 0) 8 rfl Tryd.underlying36 info3 rfl (by decide) (by omega) (.slice (some ad122) x3_3.length co28) x3_3 x17_2 [.int .i64 x17_2] (fun _ => True) (fun _ => False) rfl rfl ?aP (fun _ hk => hk.elim) ?aF ?aO ?aB ?aS ?aL ?_; (case aP => exact rfl); (case aB => exact (by repeat (first | (with_reducible first | exact HB.out | apply below_alloc | apply pw_below_drewN | apply below_drew1 | refine below_set ?_ GE121.out) | exact HB.out))); (case aF => exact (fun _ _ => trivial)); (case aO => exact (by (with_reducible repeat (first | apply Kd.R_alloc | apply Kd.R_drewN | apply Kd.R_drew)); exact HO_3.out)); (case aS => exact (below_size (by repeat (first | (with_reducible first | exact HB.out | apply below_alloc | apply pw_below_drewN | apply below_drew1 | refine below_set ?_ GE121.out) | exact HB.out)))); (case aL => have := LMc27.out; omega); intro v126 w32 ho hb hg hat; rw [← Ny125.out] at ho; have n0_ := Aside0.mk (blk_grown (g := gb121) (o := .cells #[.int .i64 ((rd_T32 l0 x17_2).f0), .int .i64 ((rd_T32 l0 x17_2).f1), .string ((rd_T32 l0 x17_2).f2), .string ((rd_T32 l0 x17_2).f3), .slice A120_4 ((rd_T32 l0 x17_2).f4).length c120_4, .string ((rd_T32 l0 x17_2).f5)] 32 (0, 0)) (by (with_reducible repeat (first | refine blk_drewN ?_ _ | refine blk_drew ?_ | refine blk_alloc ?_ _)); exact BK121.out) hg (Kd.R_ne HO_3.out BK121.out (by decide))); have n1_ := Aside0.mk (hb); have n2_ := Aside0.mk (ho); clear BK121; clear HB; clear HO_3; have BK121 := n0_; have HB := n1_; have HO127 := n2_; clear n0_ n1_ n2_; clear ho hb hg hat)); try go_wp2_with (first | (go_at_call 17; (with_reducible refine (canon_alone.calls ((rd_T32 l0 x17_2).f0) ((rd_T32 l0 x17_2).f1) ((rd_T32 l0 x17_2).f2) ((rd_T32 l0 x17_2).f3) _ _ ((rd_T32 l0 x17_2).f4) ((rd_T32 l0 x17_2).f5) true _ ?side1 ?side2 A18.out (tabs_b HT.out (by repeat (first | (with_reducible first | exact HB.out | apply below_alloc | apply pw_below_drewN | apply below_drew1 | refine below_set ?_ GE121.out) | exact HB.out)))).mono ?_); (case side1 => repeat (first | exact (Kd.C_below HR120_4.out HB.out) | (with_reducible refine Kd.C_alloc ?_ _) | (with_reducible refine Kd.C_drewN ?_ _) | (with_reducible refine Kd.C_drew ?_))); (case side2 => exact HC120_4.out); rintro e w30 ⟨rfl, hb⟩; have n0_ := Aside0.mk (Kd.R_below (by (with_reducible repeat (first | apply Kd.R_alloc | apply Kd.R_drewN | apply Kd.R_drew)); exact HO_3.out) hb); have n1_ := Aside0.mk (blk_below (g := gb121) (o := .cells #[.int .i64 ((rd_T32 l0 x17_2).f0), .int .i64 ((rd_T32 l0 x17_2).f1), .string ((rd_T32 l0 x17_2).f2), .string ((rd_T32 l0 x17_2).f3), .slice A120_4 ((rd_T32 l0 x17_2).f4).length c120_4, .string ((rd_T32 l0 x17_2).f5)] 32 (0, 0)) (by (with_reducible repeat (first | refine blk_drewN ?_ _ | refine blk_drew ?_ | refine blk_alloc ?_ _)); exact BK121.out) hb); have n2_ := Aside0.mk (below_step (by repeat (first | (with_reducible first | exact HB.out | apply below_alloc | apply pw_below_drewN | apply below_drew1 | refine below_set ?_ GE121.out) | exact HB.out)) hb); clear HO_3; clear BK121; clear HB; have HO_3 := n0_; have BK121 := n1_; have HB := n2_; clear n0_ n1_ n2_; (try clear hb); (try clear hb2); (try clear hk); (try clear hi); have hcz31_0 : w30.cell? ⟨gb121, 0, none⟩ = some (.int .i64 ((rd_T32 l0 x17_2).f0)) := (blk_cell BK121.out 0).trans rfl; have hcz31_1 : w30.cell? ⟨gb121, 1, none⟩ = some (.int .i64 ((rd_T32 l0 x17_2).f1)) := (blk_cell BK121.out 1).trans rfl; have hcz31_2 : w30.cell? ⟨gb121, 2, none⟩ = some (.string ((rd_T32 l0 x17_2).f2)) := (blk_cell BK121.out 2).trans rfl; have hcz31_3 : w30.cell? ⟨gb121, 3, none⟩ = some (.string ((rd_T32 l0 x17_2).f3)) := (blk_cell BK121.out 3).trans rfl; have hcz31_4 : w30.cell? ⟨gb121, 4, none⟩ = some (.slice A120_4 ((rd_T32 l0 x17_2).f4).length c120_4) := (blk_cell BK121.out 4).trans rfl; have hcz31_5 : w30.cell? ⟨gb121, 5, none⟩ = some (.string ((rd_T32 l0 x17_2).f5)) := (blk_cell BK121.out 5).trans rfl; have hfz31_0 := blk_frozen BK121.out 0; have hfz31_1 := blk_frozen BK121.out 1; have hfz31_2 := blk_frozen BK121.out 2; have hfz31_3 := blk_frozen BK121.out 3; have hfz31_4 := blk_frozen BK121.out 4; have hfz31_5 := blk_frozen BK121.out 5; have p124 : 0 ≤ (((rd_T32 l0 x17_2).f0) : Int) := of_decide_eq_true (by first | (with_reducible assumption) | assumption); have q124 : ((rd_T32 l0 x17_2).f0) < (l0.length : Int) := of_decide_eq_true (by first | (with_reducible assumption) | assumption); obtain ⟨ad124, A124_4, c124_4, e124, hx124_0, hx124_1, hx124_2, hx124_3, hx124_4, hx124_5, hl124_4, hi124_4⟩ := at_T32 HR0.out ((rd_T32 l0 x17_2).f0) p124 q124; obtain rfl : ad120 = ad124 := (by injection e124); replace hx124_0 := (HB.out.cell (World.block_lt_of_cell? w _ hx124_0)).trans hx124_0; replace hx124_1 := (HB.out.cell (World.block_lt_of_cell? w _ hx124_1)).trans hx124_1; replace hx124_2 := (HB.out.cell (World.block_lt_of_cell? w _ hx124_2)).trans hx124_2; replace hx124_3 := (HB.out.cell (World.block_lt_of_cell? w _ hx124_3)).trans hx124_3; replace hx124_4 := (HB.out.cell (World.block_lt_of_cell? w _ hx124_4)).trans hx124_4; replace hx124_5 := (HB.out.cell (World.block_lt_of_cell? w _ hx124_5)).trans hx124_5; have HR124_4 := Aside0.mk hi124_4; have HC124_4 := Aside0.mk hl124_4; clear hi124_4 hl124_4; replace p124 := eq_true p124; replace q124 := eq_true q124) | ((with_reducible refine gate_builtin (b := .append) (xs := #[.tmp 79, .tmp 81]) rfl ?_); (try (refine gate_guard (by rfl) ?_; dsimp only)); at_builtin; refine Kd.R_append (Kd.int .i64) (w0 := w) w.heap.size rfl (.tmp 79) (.tmp 81) 36 3 (.int .i64 0) 8 rfl Tryd.underlying36 info3 rfl (by decide) (by omega) (.slice (some ad122) x3_3.length co28) x3_3 x17_2 [.int .i64 x17_2] (fun _ => True) (fun _ => False) rfl rfl ?aP (fun _ hk => hk.elim) ?aF ?aO ?aB ?aS ?aL ?_; (case aP => exact rfl); (case aB => exact (by repeat (first | (with_reducible first | exact HB.out | apply below_alloc | apply pw_below_drewN | apply below_drew1 | refine below_set ?_ GE121.out) | exact HB.out))); (case aF => exact (fun _ _ => trivial)); (case aO => exact (by (with_reducible repeat (first | apply Kd.R_alloc | apply Kd.R_drewN | apply Kd.R_drew)); exact HO_3.out)); (case aS => exact (below_size (by repeat (first | (with_reducible first | exact HB.out | apply below_alloc | apply pw_below_drewN | apply below_drew1 | refine below_set ?_ GE121.out) | exact HB.out)))); (case aL => have := LMc27.out; omega); intro v126 w32 ho hb hg hat; rw [← Ny125.out] at ho; have n0_ := Aside0.mk (blk_grown (g := gb121) (o := .cells #[.int .i64 ((rd_T32 l0 x17_2).f0), .int .i64 ((rd_T32 l0 x17_2).f1), .string ((rd_T32 l0 x17_2).f2), .string ((rd_T32 l0 x17_2).f3), .slice A120_4 ((rd_T32 l0 x17_2).f4).length c120_4, .string ((rd_T32 l0 x17_2).f5)] 32 (0, 0)) (by (with_reducible repeat (first | refine blk_drewN ?_ _ | refine blk_drew ?_ | refine blk_alloc ?_ _)); exact BK121.out) hg (Kd.R_ne HO_3.out BK121.out (by decide))); have n1_ := Aside0.mk (hb); have n2_ := Aside0.mk (ho); clear BK121; clear HB; clear HO_3; have BK121 := n0_; have HB := n1_; have HO127 := n2_; clear n0_ n1_ n2_; clear ho hb hg hat)))
                   go_roundg k3
                   case measure => have := HJ1.out; have := HK2.out; have := HK3.out; omega
                   case rel => exact ⟨(y125), (wrap64 (x17_2 + 1)), (by first | rfl | (simp; done) | exact congrArg Value.bool (nemp _) | exact congrArg Value.bool (emp _) | (simp [*]; done)), H', ⟨by have := HJ1.out; have := HK2.out; have := HK3.out; omega⟩, ⟨by (with_reducible repeat (first | apply Kd.R_alloc | apply Kd.R_drewN | apply Kd.R_drew)); exact HO127.out⟩, ⟨by repeat (first | (with_reducible first | exact HB.out | apply below_alloc | apply pw_below_drewN | apply below_drew1 | refine below_set ?_ GE121.out) | exact HB.out)⟩⟩
                  rw [if_neg c27] at H
                  exact absurd H (by simp)
                 rw [if_neg c26] at H
                 have c26b0 : (((rd_T32 l0 ((rd_T32 l0 x17_2).f0)).f5).toList == ([] : List UInt8)) = false := beq_eq_false_iff_ne.mpr c26
                 have c26b1 : (((rd_T32 l0 ((rd_T32 l0 x17_2).f0)).f5).toList != ([] : List UInt8)) = true := bne_iff_ne.mpr c26
                 obtain rfl := Option.some.inj H
                 obtain ⟨Ao33, co33, eo33⟩ := Kd.R_slice HO_3.out
                 subst eo33
                 have p122 : 0 ≤ ((ji11) : Int) := of_decide_eq_true (by first | (with_reducible assumption) | assumption)
                 have q122 : (ji11) < (x3_3.length : Int) := of_decide_eq_true (by first | (with_reducible assumption) | assumption)
                 obtain ⟨ad122, e122, hx122_0⟩ := Kd.at_int (Kd.R_reads' HO_3.out).2.2 (ji11) p122 q122
                 cases e122
                 replace p122 := eq_true p122
                 replace q122 := eq_true q122
                 have hcz34_0 : wr.cell? ⟨gb121, 0, none⟩ = some (.int .i64 ((rd_T32 l0 x17_2).f0)) := (blk_cell BK121.out 0).trans rfl
                 have hcz34_1 : wr.cell? ⟨gb121, 1, none⟩ = some (.int .i64 ((rd_T32 l0 x17_2).f1)) := (blk_cell BK121.out 1).trans rfl
                 have hcz34_2 : wr.cell? ⟨gb121, 2, none⟩ = some (.string ((rd_T32 l0 x17_2).f2)) := (blk_cell BK121.out 2).trans rfl
                 have hcz34_3 : wr.cell? ⟨gb121, 3, none⟩ = some (.string ((rd_T32 l0 x17_2).f3)) := (blk_cell BK121.out 3).trans rfl
                 have hcz34_4 : wr.cell? ⟨gb121, 4, none⟩ = some (.slice A120_4 ((rd_T32 l0 x17_2).f4).length c120_4) := (blk_cell BK121.out 4).trans rfl
                 have hcz34_5 : wr.cell? ⟨gb121, 5, none⟩ = some (.string ((rd_T32 l0 x17_2).f5)) := (blk_cell BK121.out 5).trans rfl
                 have hfz34_0 := blk_frozen BK121.out 0
                 have hfz34_1 := blk_frozen BK121.out 1
                 have hfz34_2 := blk_frozen BK121.out 2
                 have hfz34_3 := blk_frozen BK121.out 3
                 have hfz34_4 := blk_frozen BK121.out 4
                 have hfz34_5 := blk_frozen BK121.out 5
                 go_wp2_with (first | (go_at_call 17; (with_reducible refine (canon_alone.calls ((rd_T32 l0 x17_2).f0) ((rd_T32 l0 x17_2).f1) ((rd_T32 l0 x17_2).f2) ((rd_T32 l0 x17_2).f3) _ _ ((rd_T32 l0 x17_2).f4) ((rd_T32 l0 x17_2).f5) true _ ?side1 ?side2 A18.out (tabs_b HT.out (by repeat (first | (with_reducible first | exact HB.out | apply below_alloc | apply pw_below_drewN | apply below_drew1 | refine below_set ?_ GE121.out) | exact HB.out)))).mono ?_); (case side1 => repeat (first | exact (Kd.C_below HR120_4.out HB.out) | (with_reducible refine Kd.C_alloc ?_ _) | (with_reducible refine Kd.C_drewN ?_ _) | (with_reducible refine Kd.C_drew ?_))); (case side2 => exact HC120_4.out); rintro e w35 ⟨rfl, hb⟩; have n0_ := Aside0.mk (Kd.R_below (by (with_reducible repeat (first | apply Kd.R_alloc | apply Kd.R_drewN | apply Kd.R_drew)); exact HO_3.out) hb); have n1_ := Aside0.mk (blk_below (g := gb121) (o := .cells #[.int .i64 ((rd_T32 l0 x17_2).f0), .int .i64 ((rd_T32 l0 x17_2).f1), .string ((rd_T32 l0 x17_2).f2), .string ((rd_T32 l0 x17_2).f3), .slice A120_4 ((rd_T32 l0 x17_2).f4).length c120_4, .string ((rd_T32 l0 x17_2).f5)] 32 (0, 0)) (by (with_reducible repeat (first | refine blk_drewN ?_ _ | refine blk_drew ?_ | refine blk_alloc ?_ _)); exact BK121.out) hb); have n2_ := Aside0.mk (below_step (by repeat (first | (with_reducible first | exact HB.out | apply below_alloc | apply pw_below_drewN | apply below_drew1 | refine below_set ?_ GE121.out) | exact HB.out)) hb); clear HO_3; clear BK121; clear HB; have HO_3 := n0_; have BK121 := n1_; have HB := n2_; clear n0_ n1_ n2_; (try clear hb); (try clear hb2); (try clear hk); (try clear hi); have hcz36_0 : w35.cell? ⟨gb121, 0, none⟩ = some (.int .i64 ((rd_T32 l0 x17_2).f0)) := (blk_cell BK121.out 0).trans rfl; have hcz36_1 : w35.cell? ⟨gb121, 1, none⟩ = some (.int .i64 ((rd_T32 l0 x17_2).f1)) := (blk_cell BK121.out 1).trans rfl; have hcz36_2 : w35.cell? ⟨gb121, 2, none⟩ = some (.string ((rd_T32 l0 x17_2).f2)) := (blk_cell BK121.out 2).trans rfl; have hcz36_3 : w35.cell? ⟨gb121, 3, none⟩ = some (.string ((rd_T32 l0 x17_2).f3)) := (blk_cell BK121.out 3).trans rfl; have hcz36_4 : w35.cell? ⟨gb121, 4, none⟩ = some (.slice A120_4 ((rd_T32 l0 x17_2).f4).length c120_4) := (blk_cell BK121.out 4).trans rfl; have hcz36_5 : w35.cell? ⟨gb121, 5, none⟩ = some (.string ((rd_T32 l0 x17_2).f5)) := (blk_cell BK121.out 5).trans rfl; have hfz36_0 := blk_frozen BK121.out 0; have hfz36_1 := blk_frozen BK121.out 1; have hfz36_2 := blk_frozen BK121.out 2; have hfz36_3 := blk_frozen BK121.out 3; have hfz36_4 := blk_frozen BK121.out 4; have hfz36_5 := blk_frozen BK121.out 5; have p124 : 0 ≤ (((rd_T32 l0 x17_2).f0) : Int) := of_decide_eq_true (by first | (with_reducible assumption) | assumption); have q124 : ((rd_T32 l0 x17_2).f0) < (l0.length : Int) := of_decide_eq_true (by first | (with_reducible assumption) | assumption); obtain ⟨ad124, A124_4, c124_4, e124, hx124_0, hx124_1, hx124_2, hx124_3, hx124_4, hx124_5, hl124_4, hi124_4⟩ := at_T32 HR0.out ((rd_T32 l0 x17_2).f0) p124 q124; obtain rfl : ad120 = ad124 := (by injection e124); replace hx124_0 := (HB.out.cell (World.block_lt_of_cell? w _ hx124_0)).trans hx124_0; replace hx124_1 := (HB.out.cell (World.block_lt_of_cell? w _ hx124_1)).trans hx124_1; replace hx124_2 := (HB.out.cell (World.block_lt_of_cell? w _ hx124_2)).trans hx124_2; replace hx124_3 := (HB.out.cell (World.block_lt_of_cell? w _ hx124_3)).trans hx124_3; replace hx124_4 := (HB.out.cell (World.block_lt_of_cell? w _ hx124_4)).trans hx124_4; replace hx124_5 := (HB.out.cell (World.block_lt_of_cell? w _ hx124_5)).trans hx124_5; have HR124_4 := Aside0.mk hi124_4; have HC124_4 := Aside0.mk hl124_4; clear hi124_4 hl124_4; replace p124 := eq_true p124; replace q124 := eq_true q124))
                 repeat (go_quiet (first | (go_at_call 17; (with_reducible refine (canon_alone.calls ((rd_T32 l0 x17_2).f0) ((rd_T32 l0 x17_2).f1) ((rd_T32 l0 x17_2).f2) ((rd_T32 l0 x17_2).f3) _ _ ((rd_T32 l0 x17_2).f4) ((rd_T32 l0 x17_2).f5) true _ ?side1 ?side2 A18.out (tabs_b HT.out (by repeat (first | (with_reducible first | exact HB.out | apply below_alloc | apply pw_below_drewN | apply below_drew1 | refine below_set ?_ GE121.out) | exact HB.out)))).mono ?_); (case side1 => repeat (first | exact (Kd.C_below HR120_4.out HB.out) | (with_reducible refine Kd.C_alloc ?_ _) | (with_reducible refine Kd.C_drewN ?_ _) | (with_reducible refine Kd.C_drew ?_))); (case side2 => exact HC120_4.out); rintro e w35 ⟨rfl, hb⟩; have n0_ := Aside0.mk (Kd.R_below (by (with_reducible repeat (first | apply Kd.R_alloc | apply Kd.R_drewN | apply Kd.R_drew)); exact HO_3.out) hb); have n1_ := Aside0.mk (blk_below (g := gb121) (o := .cells #[.int .i64 ((rd_T32 l0 x17_2).f0), .int .i64 ((rd_T32 l0 x17_2).f1), .string ((rd_T32 l0 x17_2).f2), .string ((rd_T32 l0 x17_2).f3), .slice A120_4 ((rd_T32 l0 x17_2).f4).length c120_4, .string ((rd_T32 l0 x17_2).f5)] 32 (0, 0)) (by (with_reducible repeat (first | refine blk_drewN ?_ _ | refine blk_drew ?_ | refine blk_alloc ?_ _)); exact BK121.out) hb); have n2_ := Aside0.mk (below_step (by repeat (first | (with_reducible first | exact HB.out | apply below_alloc | apply pw_below_drewN | apply below_drew1 | refine below_set ?_ GE121.out) | exact HB.out)) hb); clear HO_3; clear BK121; clear HB; have HO_3 := n0_; have BK121 := n1_; have HB := n2_; clear n0_ n1_ n2_; (try clear hb); (try clear hb2); (try clear hk); (try clear hi); have hcz36_0 : w35.cell? ⟨gb121, 0, none⟩ = some (.int .i64 ((rd_T32 l0 x17_2).f0)) := (blk_cell BK121.out 0).trans rfl; have hcz36_1 : w35.cell? ⟨gb121, 1, none⟩ = some (.int .i64 ((rd_T32 l0 x17_2).f1)) := (blk_cell BK121.out 1).trans rfl; have hcz36_2 : w35.cell? ⟨gb121, 2, none⟩ = some (.string ((rd_T32 l0 x17_2).f2)) := (blk_cell BK121.out 2).trans rfl; have hcz36_3 : w35.cell? ⟨gb121, 3, none⟩ = some (.string ((rd_T32 l0 x17_2).f3)) := (blk_cell BK121.out 3).trans rfl; have hcz36_4 : w35.cell? ⟨gb121, 4, none⟩ = some (.slice A120_4 ((rd_T32 l0 x17_2).f4).length c120_4) := (blk_cell BK121.out 4).trans rfl; have hcz36_5 : w35.cell? ⟨gb121, 5, none⟩ = some (.string ((rd_T32 l0 x17_2).f5)) := (blk_cell BK121.out 5).trans rfl; have hfz36_0 := blk_frozen BK121.out 0; have hfz36_1 := blk_frozen BK121.out 1; have hfz36_2 := blk_frozen BK121.out 2; have hfz36_3 := blk_frozen BK121.out 3; have hfz36_4 := blk_frozen BK121.out 4; have hfz36_5 := blk_frozen BK121.out 5; have p124 : 0 ≤ (((rd_T32 l0 x17_2).f0) : Int) := of_decide_eq_true (by first | (with_reducible assumption) | assumption); have q124 : ((rd_T32 l0 x17_2).f0) < (l0.length : Int) := of_decide_eq_true (by first | (with_reducible assumption) | assumption); obtain ⟨ad124, A124_4, c124_4, e124, hx124_0, hx124_1, hx124_2, hx124_3, hx124_4, hx124_5, hl124_4, hi124_4⟩ := at_T32 HR0.out ((rd_T32 l0 x17_2).f0) p124 q124; obtain rfl : ad120 = ad124 := (by injection e124); replace hx124_0 := (HB.out.cell (World.block_lt_of_cell? w _ hx124_0)).trans hx124_0; replace hx124_1 := (HB.out.cell (World.block_lt_of_cell? w _ hx124_1)).trans hx124_1; replace hx124_2 := (HB.out.cell (World.block_lt_of_cell? w _ hx124_2)).trans hx124_2; replace hx124_3 := (HB.out.cell (World.block_lt_of_cell? w _ hx124_3)).trans hx124_3; replace hx124_4 := (HB.out.cell (World.block_lt_of_cell? w _ hx124_4)).trans hx124_4; replace hx124_5 := (HB.out.cell (World.block_lt_of_cell? w _ hx124_5)).trans hx124_5; have HR124_4 := Aside0.mk hi124_4; have HC124_4 := Aside0.mk hl124_4; clear hi124_4 hl124_4; replace p124 := eq_true p124; replace q124 := eq_true q124)); try go_wp2_with (first | (go_at_call 17; (with_reducible refine (canon_alone.calls ((rd_T32 l0 x17_2).f0) ((rd_T32 l0 x17_2).f1) ((rd_T32 l0 x17_2).f2) ((rd_T32 l0 x17_2).f3) _ _ ((rd_T32 l0 x17_2).f4) ((rd_T32 l0 x17_2).f5) true _ ?side1 ?side2 A18.out (tabs_b HT.out (by repeat (first | (with_reducible first | exact HB.out | apply below_alloc | apply pw_below_drewN | apply below_drew1 | refine below_set ?_ GE121.out) | exact HB.out)))).mono ?_); (case side1 => repeat (first | exact (Kd.C_below HR120_4.out HB.out) | (with_reducible refine Kd.C_alloc ?_ _) | (with_reducible refine Kd.C_drewN ?_ _) | (with_reducible refine Kd.C_drew ?_))); (case side2 => exact HC120_4.out); rintro e w35 ⟨rfl, hb⟩; have n0_ := Aside0.mk (Kd.R_below (by (with_reducible repeat (first | apply Kd.R_alloc | apply Kd.R_drewN | apply Kd.R_drew)); exact HO_3.out) hb); have n1_ := Aside0.mk (blk_below (g := gb121) (o := .cells #[.int .i64 ((rd_T32 l0 x17_2).f0), .int .i64 ((rd_T32 l0 x17_2).f1), .string ((rd_T32 l0 x17_2).f2), .string ((rd_T32 l0 x17_2).f3), .slice A120_4 ((rd_T32 l0 x17_2).f4).length c120_4, .string ((rd_T32 l0 x17_2).f5)] 32 (0, 0)) (by (with_reducible repeat (first | refine blk_drewN ?_ _ | refine blk_drew ?_ | refine blk_alloc ?_ _)); exact BK121.out) hb); have n2_ := Aside0.mk (below_step (by repeat (first | (with_reducible first | exact HB.out | apply below_alloc | apply pw_below_drewN | apply below_drew1 | refine below_set ?_ GE121.out) | exact HB.out)) hb); clear HO_3; clear BK121; clear HB; have HO_3 := n0_; have BK121 := n1_; have HB := n2_; clear n0_ n1_ n2_; (try clear hb); (try clear hb2); (try clear hk); (try clear hi); have hcz36_0 : w35.cell? ⟨gb121, 0, none⟩ = some (.int .i64 ((rd_T32 l0 x17_2).f0)) := (blk_cell BK121.out 0).trans rfl; have hcz36_1 : w35.cell? ⟨gb121, 1, none⟩ = some (.int .i64 ((rd_T32 l0 x17_2).f1)) := (blk_cell BK121.out 1).trans rfl; have hcz36_2 : w35.cell? ⟨gb121, 2, none⟩ = some (.string ((rd_T32 l0 x17_2).f2)) := (blk_cell BK121.out 2).trans rfl; have hcz36_3 : w35.cell? ⟨gb121, 3, none⟩ = some (.string ((rd_T32 l0 x17_2).f3)) := (blk_cell BK121.out 3).trans rfl; have hcz36_4 : w35.cell? ⟨gb121, 4, none⟩ = some (.slice A120_4 ((rd_T32 l0 x17_2).f4).length c120_4) := (blk_cell BK121.out 4).trans rfl; have hcz36_5 : w35.cell? ⟨gb121, 5, none⟩ = some (.string ((rd_T32 l0 x17_2).f5)) := (blk_cell BK121.out 5).trans rfl; have hfz36_0 := blk_frozen BK121.out 0; have hfz36_1 := blk_frozen BK121.out 1; have hfz36_2 := blk_frozen BK121.out 2; have hfz36_3 := blk_frozen BK121.out 3; have hfz36_4 := blk_frozen BK121.out 4; have hfz36_5 := blk_frozen BK121.out 5; have p124 : 0 ≤ (((rd_T32 l0 x17_2).f0) : Int) := of_decide_eq_true (by first | (with_reducible assumption) | assumption); have q124 : ((rd_T32 l0 x17_2).f0) < (l0.length : Int) := of_decide_eq_true (by first | (with_reducible assumption) | assumption); obtain ⟨ad124, A124_4, c124_4, e124, hx124_0, hx124_1, hx124_2, hx124_3, hx124_4, hx124_5, hl124_4, hi124_4⟩ := at_T32 HR0.out ((rd_T32 l0 x17_2).f0) p124 q124; obtain rfl : ad120 = ad124 := (by injection e124); replace hx124_0 := (HB.out.cell (World.block_lt_of_cell? w _ hx124_0)).trans hx124_0; replace hx124_1 := (HB.out.cell (World.block_lt_of_cell? w _ hx124_1)).trans hx124_1; replace hx124_2 := (HB.out.cell (World.block_lt_of_cell? w _ hx124_2)).trans hx124_2; replace hx124_3 := (HB.out.cell (World.block_lt_of_cell? w _ hx124_3)).trans hx124_3; replace hx124_4 := (HB.out.cell (World.block_lt_of_cell? w _ hx124_4)).trans hx124_4; replace hx124_5 := (HB.out.cell (World.block_lt_of_cell? w _ hx124_5)).trans hx124_5; have HR124_4 := Aside0.mk hi124_4; have HC124_4 := Aside0.mk hl124_4; clear hi124_4 hl124_4; replace p124 := eq_true p124; replace q124 := eq_true q124)))
                 go_ret
                 exact ⟨by first | rfl | (simp only [nemp]; rfl) | (simp [errW_none, errW_some] <;> rfl) | (simp only [← hji11]; first | rfl | (simp [errW_none, errW_some] <;> rfl)) | (simp [*, errW_none, errW_some] <;> rfl), by repeat (first | (with_reducible first | exact HB.out | apply below_alloc | apply pw_below_drewN | apply below_drew1 | refine below_set ?_ GE121.out) | exact HB.out)⟩
                rw [if_neg c25] at H
                exact absurd H (by simp)
               rw [if_neg c24] at H
               exact absurd H (by simp)
              replace c19 := Bool.eq_false_iff.mpr c19
              subst c19
              have H1 : (some false) = some r := by rw [if_neg (show ¬ (false = true) by decide)] at H; exact H
              clear H
              have H := H1
              clear H1
              obtain rfl := Option.some.inj H
              obtain ⟨Ao37, co37, eo37⟩ := Kd.R_slice HO_3.out
              subst eo37
              have p122 : 0 ≤ ((ji11) : Int) := of_decide_eq_true (by first | (with_reducible assumption) | assumption)
              have q122 : (ji11) < (x3_3.length : Int) := of_decide_eq_true (by first | (with_reducible assumption) | assumption)
              obtain ⟨ad122, e122, hx122_0⟩ := Kd.at_int (Kd.R_reads' HO_3.out).2.2 (ji11) p122 q122
              cases e122
              replace p122 := eq_true p122
              replace q122 := eq_true q122
              have hcz38_0 : wr.cell? ⟨gb121, 0, none⟩ = some (.int .i64 ((rd_T32 l0 x17_2).f0)) := (blk_cell BK121.out 0).trans rfl
              have hcz38_1 : wr.cell? ⟨gb121, 1, none⟩ = some (.int .i64 ((rd_T32 l0 x17_2).f1)) := (blk_cell BK121.out 1).trans rfl
              have hcz38_2 : wr.cell? ⟨gb121, 2, none⟩ = some (.string ((rd_T32 l0 x17_2).f2)) := (blk_cell BK121.out 2).trans rfl
              have hcz38_3 : wr.cell? ⟨gb121, 3, none⟩ = some (.string ((rd_T32 l0 x17_2).f3)) := (blk_cell BK121.out 3).trans rfl
              have hcz38_4 : wr.cell? ⟨gb121, 4, none⟩ = some (.slice A120_4 ((rd_T32 l0 x17_2).f4).length c120_4) := (blk_cell BK121.out 4).trans rfl
              have hcz38_5 : wr.cell? ⟨gb121, 5, none⟩ = some (.string ((rd_T32 l0 x17_2).f5)) := (blk_cell BK121.out 5).trans rfl
              have hfz38_0 := blk_frozen BK121.out 0
              have hfz38_1 := blk_frozen BK121.out 1
              have hfz38_2 := blk_frozen BK121.out 2
              have hfz38_3 := blk_frozen BK121.out 3
              have hfz38_4 := blk_frozen BK121.out 4
              have hfz38_5 := blk_frozen BK121.out 5
              go_wp2_with (first | (go_at_call 17; (with_reducible refine (canon_alone.calls ((rd_T32 l0 x17_2).f0) ((rd_T32 l0 x17_2).f1) ((rd_T32 l0 x17_2).f2) ((rd_T32 l0 x17_2).f3) _ _ ((rd_T32 l0 x17_2).f4) ((rd_T32 l0 x17_2).f5) false _ ?side1 ?side2 A18.out (tabs_b HT.out (by repeat (first | (with_reducible first | exact HB.out | apply below_alloc | apply pw_below_drewN | apply below_drew1 | refine below_set ?_ GE121.out) | exact HB.out)))).mono ?_); (case side1 => repeat (first | exact (Kd.C_below HR120_4.out HB.out) | (with_reducible refine Kd.C_alloc ?_ _) | (with_reducible refine Kd.C_drewN ?_ _) | (with_reducible refine Kd.C_drew ?_))); (case side2 => exact HC120_4.out); rintro e w39 ⟨rfl, hb⟩; have n0_ := Aside0.mk (Kd.R_below (by (with_reducible repeat (first | apply Kd.R_alloc | apply Kd.R_drewN | apply Kd.R_drew)); exact HO_3.out) hb); have n1_ := Aside0.mk (blk_below (g := gb121) (o := .cells #[.int .i64 ((rd_T32 l0 x17_2).f0), .int .i64 ((rd_T32 l0 x17_2).f1), .string ((rd_T32 l0 x17_2).f2), .string ((rd_T32 l0 x17_2).f3), .slice A120_4 ((rd_T32 l0 x17_2).f4).length c120_4, .string ((rd_T32 l0 x17_2).f5)] 32 (0, 0)) (by (with_reducible repeat (first | refine blk_drewN ?_ _ | refine blk_drew ?_ | refine blk_alloc ?_ _)); exact BK121.out) hb); have n2_ := Aside0.mk (below_step (by repeat (first | (with_reducible first | exact HB.out | apply below_alloc | apply pw_below_drewN | apply below_drew1 | refine below_set ?_ GE121.out) | exact HB.out)) hb); clear HO_3; clear BK121; clear HB; have HO_3 := n0_; have BK121 := n1_; have HB := n2_; clear n0_ n1_ n2_; (try clear hb); (try clear hb2); (try clear hk); (try clear hi)))
              repeat (go_quiet (first | (go_at_call 17; (with_reducible refine (canon_alone.calls ((rd_T32 l0 x17_2).f0) ((rd_T32 l0 x17_2).f1) ((rd_T32 l0 x17_2).f2) ((rd_T32 l0 x17_2).f3) _ _ ((rd_T32 l0 x17_2).f4) ((rd_T32 l0 x17_2).f5) false _ ?side1 ?side2 A18.out (tabs_b HT.out (by repeat (first | (with_reducible first | exact HB.out | apply below_alloc | apply pw_below_drewN | apply below_drew1 | refine below_set ?_ GE121.out) | exact HB.out)))).mono ?_); (case side1 => repeat (first | exact (Kd.C_below HR120_4.out HB.out) | (with_reducible refine Kd.C_alloc ?_ _) | (with_reducible refine Kd.C_drewN ?_ _) | (with_reducible refine Kd.C_drew ?_))); (case side2 => exact HC120_4.out); rintro e w39 ⟨rfl, hb⟩; have n0_ := Aside0.mk (Kd.R_below (by (with_reducible repeat (first | apply Kd.R_alloc | apply Kd.R_drewN | apply Kd.R_drew)); exact HO_3.out) hb); have n1_ := Aside0.mk (blk_below (g := gb121) (o := .cells #[.int .i64 ((rd_T32 l0 x17_2).f0), .int .i64 ((rd_T32 l0 x17_2).f1), .string ((rd_T32 l0 x17_2).f2), .string ((rd_T32 l0 x17_2).f3), .slice A120_4 ((rd_T32 l0 x17_2).f4).length c120_4, .string ((rd_T32 l0 x17_2).f5)] 32 (0, 0)) (by (with_reducible repeat (first | refine blk_drewN ?_ _ | refine blk_drew ?_ | refine blk_alloc ?_ _)); exact BK121.out) hb); have n2_ := Aside0.mk (below_step (by repeat (first | (with_reducible first | exact HB.out | apply below_alloc | apply pw_below_drewN | apply below_drew1 | refine below_set ?_ GE121.out) | exact HB.out)) hb); clear HO_3; clear BK121; clear HB; have HO_3 := n0_; have BK121 := n1_; have HB := n2_; clear n0_ n1_ n2_; (try clear hb); (try clear hb2); (try clear hk); (try clear hi))); try go_wp2_with (first | (go_at_call 17; (with_reducible refine (canon_alone.calls ((rd_T32 l0 x17_2).f0) ((rd_T32 l0 x17_2).f1) ((rd_T32 l0 x17_2).f2) ((rd_T32 l0 x17_2).f3) _ _ ((rd_T32 l0 x17_2).f4) ((rd_T32 l0 x17_2).f5) false _ ?side1 ?side2 A18.out (tabs_b HT.out (by repeat (first | (with_reducible first | exact HB.out | apply below_alloc | apply pw_below_drewN | apply below_drew1 | refine below_set ?_ GE121.out) | exact HB.out)))).mono ?_); (case side1 => repeat (first | exact (Kd.C_below HR120_4.out HB.out) | (with_reducible refine Kd.C_alloc ?_ _) | (with_reducible refine Kd.C_drewN ?_ _) | (with_reducible refine Kd.C_drew ?_))); (case side2 => exact HC120_4.out); rintro e w39 ⟨rfl, hb⟩; have n0_ := Aside0.mk (Kd.R_below (by (with_reducible repeat (first | apply Kd.R_alloc | apply Kd.R_drewN | apply Kd.R_drew)); exact HO_3.out) hb); have n1_ := Aside0.mk (blk_below (g := gb121) (o := .cells #[.int .i64 ((rd_T32 l0 x17_2).f0), .int .i64 ((rd_T32 l0 x17_2).f1), .string ((rd_T32 l0 x17_2).f2), .string ((rd_T32 l0 x17_2).f3), .slice A120_4 ((rd_T32 l0 x17_2).f4).length c120_4, .string ((rd_T32 l0 x17_2).f5)] 32 (0, 0)) (by (with_reducible repeat (first | refine blk_drewN ?_ _ | refine blk_drew ?_ | refine blk_alloc ?_ _)); exact BK121.out) hb); have n2_ := Aside0.mk (below_step (by repeat (first | (with_reducible first | exact HB.out | apply below_alloc | apply pw_below_drewN | apply below_drew1 | refine below_set ?_ GE121.out) | exact HB.out)) hb); clear HO_3; clear BK121; clear HB; have HO_3 := n0_; have BK121 := n1_; have HB := n2_; clear n0_ n1_ n2_; (try clear hb); (try clear hb2); (try clear hk); (try clear hi))))
              go_ret
              exact ⟨by first | rfl | (simp only [nemp]; rfl) | (simp [errW_none, errW_some] <;> rfl) | (simp only [← hji11]; first | rfl | (simp [errW_none, errW_some] <;> rfl)) | (simp [*, errW_none, errW_some] <;> rfl), by repeat (first | (with_reducible first | exact HB.out | apply below_alloc | apply pw_below_drewN | apply below_drew1 | refine below_set ?_ GE121.out) | exact HB.out)⟩
             rw [if_neg c14] at H
             have c14b0 : ((rd x3_3 (ji11)) == ((rd_T32 l0 x17_2).f0)) = false := beq_eq_false_iff_ne.mpr c14
             have c14b1 : ((rd x3_3 (ji11)) != ((rd_T32 l0 x17_2).f0)) = true := bne_iff_ne.mpr c14
             by_cases c40 : (ji11) ≤ (x3_3.length : Int)
             ·rw [if_pos c40] at H
              have c40b0 := eq_true c40
              have c40b1 : decide ((ji11) ≤ (x3_3.length : Int)) = true := decide_eq_true c40
              clear c40
              obtain ⟨y128, hy128⟩ : ∃ y_ : List Int, y_ = (x3_3.take ((ji11) : Int).toNat) := ⟨_, rfl⟩
              replace H : (canon_Right.l1 k3 l0 y128 x17_2 l0 (l0.length : Int) x17_2 ((rd_T32 l0 x17_2).f0) ((rd_T32 l0 x17_2).f1) ((rd_T32 l0 x17_2).f2) ((rd_T32 l0 x17_2).f3) ((rd_T32 l0 x17_2).f4) ((rd_T32 l0 x17_2).f5)) = some r := by first | (rw [hy128]; with_reducible exact H) | (have H2_ := (Option.bind_some _ _).symm.trans H; rw [hy128]; with_reducible exact H2_) | (have H2_ := (Option.bind_some _ _).symm.trans H; with_reducible exact H2_) | with_reducible exact H | (rw [hy128]; exact H) | exact H
              have Ny128 := Aside0.mk hy128
              clear hy128
              have H' := Aside0.mk H
              clear H
              obtain ⟨Ao41, co41, eo41⟩ := Kd.R_slice HO_3.out
              subst eo41
              have p122 : 0 ≤ ((ji11) : Int) := of_decide_eq_true (by first | (with_reducible assumption) | assumption)
              have q122 : (ji11) < (x3_3.length : Int) := of_decide_eq_true (by first | (with_reducible assumption) | assumption)
              obtain ⟨ad122, e122, hx122_0⟩ := Kd.at_int (Kd.R_reads' HO_3.out).2.2 (ji11) p122 q122
              cases e122
              replace p122 := eq_true p122
              replace q122 := eq_true q122
              have hcz42_0 : wr.cell? ⟨gb121, 0, none⟩ = some (.int .i64 ((rd_T32 l0 x17_2).f0)) := (blk_cell BK121.out 0).trans rfl
              have hcz42_1 : wr.cell? ⟨gb121, 1, none⟩ = some (.int .i64 ((rd_T32 l0 x17_2).f1)) := (blk_cell BK121.out 1).trans rfl
              have hcz42_2 : wr.cell? ⟨gb121, 2, none⟩ = some (.string ((rd_T32 l0 x17_2).f2)) := (blk_cell BK121.out 2).trans rfl
              have hcz42_3 : wr.cell? ⟨gb121, 3, none⟩ = some (.string ((rd_T32 l0 x17_2).f3)) := (blk_cell BK121.out 3).trans rfl
              have hcz42_4 : wr.cell? ⟨gb121, 4, none⟩ = some (.slice A120_4 ((rd_T32 l0 x17_2).f4).length c120_4) := (blk_cell BK121.out 4).trans rfl
              have hcz42_5 : wr.cell? ⟨gb121, 5, none⟩ = some (.string ((rd_T32 l0 x17_2).f5)) := (blk_cell BK121.out 5).trans rfl
              have hfz42_0 := blk_frozen BK121.out 0
              have hfz42_1 := blk_frozen BK121.out 1
              have hfz42_2 := blk_frozen BK121.out 2
              have hfz42_3 := blk_frozen BK121.out 3
              have hfz42_4 := blk_frozen BK121.out 4
              have hfz42_5 := blk_frozen BK121.out 5
              have q43 : ((ji11) : Int) ≤ ((x3_3.length : Int) : Int) := of_decide_eq_true (by first | (with_reducible assumption) | assumption)
              obtain ⟨i043, hi043, _, hsz43, _⟩ := info_parts info3
              have hcut43 := cut_to (P := Tryd.prog) 36 3 .i64 Tryd.underlying36 hi043 (some ad122) x3_3.length co41 (ji11) (of_decide_eq_true (by first | (with_reducible assumption) | assumption)) q43 (Kd.R_reads' HO_3.out).2.1
              have hr43 := Kd.R_take (m := ((ji11) : Int).toNat) HO_3.out (by omega)
              have hy43 : y128.length = ((ji11) : Int).toNat := (by rw [Ny128.out, List.length_take]; omega)
              rw [← Ny128.out] at hr43
              rw [← hy43] at hr43 hcut43
              clear hy43 hi043 hsz43 HO_3
              have HO130 := Aside0.mk hr43
              clear hr43
              replace q43 := eq_true q43
              go_wp2
              repeat (go_quiet (fail); try go_wp2)
              go_roundg k3
              case measure => have := HJ1.out; have := HK2.out; have := HK3.out; omega
              case rel => exact ⟨(y128), H', ⟨by have := HJ1.out; have := HK2.out; have := HK3.out; omega⟩, ⟨by (with_reducible repeat (first | apply Kd.R_alloc | apply Kd.R_drewN | apply Kd.R_drew)); exact HO130.out⟩, ⟨by (with_reducible repeat (first | refine blk_drewN ?_ _ | refine blk_drew ?_ | refine blk_alloc ?_ _)); exact BK121.out⟩, ⟨by repeat (first | (with_reducible first | exact HB.out | apply below_alloc | apply pw_below_drewN | apply below_drew1 | refine below_set ?_ GE121.out) | exact HB.out)⟩⟩
             rw [if_neg c40] at H
             exact absurd H (by simp)
            rw [if_neg c13] at H
            exact absurd H (by simp)
           rw [if_neg c12] at H
           exact absurd H (by simp)
          rw [if_neg c10] at H
          have c10b0 : decide (0 < (x3_3.length : Int)) = false := decide_eq_false c10
          have c10b1 : decide (0 < x3_3.length) = false := decide_eq_false (by omega)
          clear c10
          by_cases c44 : ((decide ((x3_3.length : Int) > 0)) != (decide (x17_2 > 0))) = true
          ·rw [if_pos c44] at H
           have c44b0 : ((decide ((x3_3.length : Int) > 0)) != (decide (x17_2 > 0))) = true := c44
           (try (have c44b1 : decide ((decide ((x3_3.length : Int) > 0)) = (decide (x17_2 > 0))) = false := by simpa using c44))
           (try (have c44b2 : ((decide ((x3_3.length : Int) > 0)) == (decide (x17_2 > 0))) = false := by simpa using c44))
           (try (have c44b3 : ¬ ((decide ((x3_3.length : Int) > 0)) = (decide (x17_2 > 0))) := by simpa using c44))
           (try (have c44b4 : decide (0 < x17_2) = false := by have h_ : decide ((x3_3.length : Int) > 0) = true := (by assumption); rw [h_] at c44; revert c44; cases decide (x17_2 > 0) <;> decide))
           (try (have c44b5 : decide (0 < x17_2) = true := by have h_ : decide ((x3_3.length : Int) > 0) = false := (by assumption); rw [h_] at c44; revert c44; cases decide (x17_2 > 0) <;> decide))
           (try (have c44b6 : decide (0 < (x3_3.length : Int)) = false := by have h_ : decide (x17_2 > 0) = true := (by assumption); rw [h_] at c44; revert c44; cases decide ((x3_3.length : Int) > 0) <;> decide))
           (try (have c44b7 : decide (0 < (x3_3.length : Int)) = true := by have h_ : decide (x17_2 > 0) = false := (by assumption); rw [h_] at c44; revert c44; cases decide ((x3_3.length : Int) > 0) <;> decide))
           clear c44
           obtain rfl := Option.some.inj H
           obtain ⟨Ao45, co45, eo45⟩ := Kd.R_slice HO_3.out
           subst eo45
           go_wp2
           repeat (go_quiet (fail); try go_wp2)
           go_ret
           exact ⟨by first | rfl | (simp only [nemp]; rfl) | (simp [errW_none, errW_some] <;> rfl) | (simp [*, errW_none, errW_some] <;> rfl), by repeat (first | (with_reducible first | exact HB.out | apply below_alloc | apply pw_below_drewN | apply below_drew1 | refine below_set ?_ GE121.out) | exact HB.out)⟩
          rw [if_neg c44] at H
          have c44b0 : ((decide ((x3_3.length : Int) > 0)) != (decide (x17_2 > 0))) = false := by simpa using c44
          (try (have c44b1 : decide ((decide ((x3_3.length : Int) > 0)) = (decide (x17_2 > 0))) = true := by simpa using c44))
          (try (have c44b2 : ((decide ((x3_3.length : Int) > 0)) == (decide (x17_2 > 0))) = true := by simpa using c44))
          (try (have c44b3 : decide (0 < x17_2) = true := by have h_ : decide ((x3_3.length : Int) > 0) = true := (by assumption); rw [h_] at c44; revert c44; cases decide (x17_2 > 0) <;> decide))
          (try (have c44b4 : decide (0 < x17_2) = false := by have h_ : decide ((x3_3.length : Int) > 0) = false := (by assumption); rw [h_] at c44; revert c44; cases decide (x17_2 > 0) <;> decide))
          (try (have c44b5 : decide (0 < (x3_3.length : Int)) = true := by have h_ : decide (x17_2 > 0) = true := (by assumption); rw [h_] at c44; revert c44; cases decide ((x3_3.length : Int) > 0) <;> decide))
          (try (have c44b6 : decide (0 < (x3_3.length : Int)) = false := by have h_ : decide (x17_2 > 0) = false := (by assumption); rw [h_] at c44; revert c44; cases decide ((x3_3.length : Int) > 0) <;> decide))
          clear c44
          by_cases c46 : ((rd_T32 l0 x17_2).f0) = (-1)
          ·rw [if_pos c46] at H
           have c46b0 : (((rd_T32 l0 x17_2).f0) == (-1)) = true := beq_iff_eq.mpr c46
           have c46b1 : (((rd_T32 l0 x17_2).f0) != (-1)) = false := bne_eq_false_iff_eq.mpr c46
           clear c46
           replace H := Option.bind_eq_some_iff.mp H
           obtain ⟨t131, A470, H⟩ := H
           replace H : (if t131 = true then (if (x3_3.length : Int) ≥ 12 then (some false) else (if x3_3.length < 17592186044416 then (canon_Right.l0 k3 l0 (x3_3 ++ [x17_2]) l0 (l0.length : Int) (wrap64 (x17_2 + 1))) else (none))) else (some false)) = some r := H
           have A47 := Aside0.mk A470
           clear A470
           by_cases c48 : t131 = true
           ·subst c48
            have H1 : (if (x3_3.length : Int) ≥ 12 then (some false) else (if x3_3.length < 17592186044416 then (canon_Right.l0 k3 l0 (x3_3 ++ [x17_2]) l0 (l0.length : Int) (wrap64 (x17_2 + 1))) else (none))) = some r := by rw [if_pos rfl] at H; exact H
            clear H
            have H := H1
            clear H1
            by_cases c49 : (x3_3.length : Int) ≥ 12
            ·rw [if_pos c49] at H
             have c49b0 : decide (12 ≤ (x3_3.length : Int)) = true := decide_eq_true c49
             have c49b1 : decide (12 ≤ x3_3.length) = true := decide_eq_true (by omega)
             clear c49
             obtain rfl := Option.some.inj H
             obtain ⟨Ao50, co50, eo50⟩ := Kd.R_slice HO_3.out
             subst eo50
             have hcz51_0 : wr.cell? ⟨gb121, 0, none⟩ = some (.int .i64 ((rd_T32 l0 x17_2).f0)) := (blk_cell BK121.out 0).trans rfl
             have hcz51_1 : wr.cell? ⟨gb121, 1, none⟩ = some (.int .i64 ((rd_T32 l0 x17_2).f1)) := (blk_cell BK121.out 1).trans rfl
             have hcz51_2 : wr.cell? ⟨gb121, 2, none⟩ = some (.string ((rd_T32 l0 x17_2).f2)) := (blk_cell BK121.out 2).trans rfl
             have hcz51_3 : wr.cell? ⟨gb121, 3, none⟩ = some (.string ((rd_T32 l0 x17_2).f3)) := (blk_cell BK121.out 3).trans rfl
             have hcz51_4 : wr.cell? ⟨gb121, 4, none⟩ = some (.slice A120_4 ((rd_T32 l0 x17_2).f4).length c120_4) := (blk_cell BK121.out 4).trans rfl
             have hcz51_5 : wr.cell? ⟨gb121, 5, none⟩ = some (.string ((rd_T32 l0 x17_2).f5)) := (blk_cell BK121.out 5).trans rfl
             have hfz51_0 := blk_frozen BK121.out 0
             have hfz51_1 := blk_frozen BK121.out 1
             have hfz51_2 := blk_frozen BK121.out 2
             have hfz51_3 := blk_frozen BK121.out 3
             have hfz51_4 := blk_frozen BK121.out 4
             have hfz51_5 := blk_frozen BK121.out 5
             go_wp2_with (first | (go_at_call 17; (with_reducible refine (canon_alone.calls ((rd_T32 l0 x17_2).f0) ((rd_T32 l0 x17_2).f1) ((rd_T32 l0 x17_2).f2) ((rd_T32 l0 x17_2).f3) _ _ ((rd_T32 l0 x17_2).f4) ((rd_T32 l0 x17_2).f5) true _ ?side1 ?side2 A47.out (tabs_b HT.out (by repeat (first | (with_reducible first | exact HB.out | apply below_alloc | apply pw_below_drewN | apply below_drew1 | refine below_set ?_ GE121.out) | exact HB.out)))).mono ?_); (case side1 => repeat (first | exact (Kd.C_below HR120_4.out HB.out) | (with_reducible refine Kd.C_alloc ?_ _) | (with_reducible refine Kd.C_drewN ?_ _) | (with_reducible refine Kd.C_drew ?_))); (case side2 => exact HC120_4.out); rintro e w52 ⟨rfl, hb⟩; have n0_ := Aside0.mk (Kd.R_below (by (with_reducible repeat (first | apply Kd.R_alloc | apply Kd.R_drewN | apply Kd.R_drew)); exact HO_3.out) hb); have n1_ := Aside0.mk (blk_below (g := gb121) (o := .cells #[.int .i64 ((rd_T32 l0 x17_2).f0), .int .i64 ((rd_T32 l0 x17_2).f1), .string ((rd_T32 l0 x17_2).f2), .string ((rd_T32 l0 x17_2).f3), .slice A120_4 ((rd_T32 l0 x17_2).f4).length c120_4, .string ((rd_T32 l0 x17_2).f5)] 32 (0, 0)) (by (with_reducible repeat (first | refine blk_drewN ?_ _ | refine blk_drew ?_ | refine blk_alloc ?_ _)); exact BK121.out) hb); have n2_ := Aside0.mk (below_step (by repeat (first | (with_reducible first | exact HB.out | apply below_alloc | apply pw_below_drewN | apply below_drew1 | refine below_set ?_ GE121.out) | exact HB.out)) hb); clear HO_3; clear BK121; clear HB; have HO_3 := n0_; have BK121 := n1_; have HB := n2_; clear n0_ n1_ n2_; (try clear hb); (try clear hb2); (try clear hk); (try clear hi)))
             repeat (go_quiet (first | (go_at_call 17; (with_reducible refine (canon_alone.calls ((rd_T32 l0 x17_2).f0) ((rd_T32 l0 x17_2).f1) ((rd_T32 l0 x17_2).f2) ((rd_T32 l0 x17_2).f3) _ _ ((rd_T32 l0 x17_2).f4) ((rd_T32 l0 x17_2).f5) true _ ?side1 ?side2 A47.out (tabs_b HT.out (by repeat (first | (with_reducible first | exact HB.out | apply below_alloc | apply pw_below_drewN | apply below_drew1 | refine below_set ?_ GE121.out) | exact HB.out)))).mono ?_); (case side1 => repeat (first | exact (Kd.C_below HR120_4.out HB.out) | (with_reducible refine Kd.C_alloc ?_ _) | (with_reducible refine Kd.C_drewN ?_ _) | (with_reducible refine Kd.C_drew ?_))); (case side2 => exact HC120_4.out); rintro e w52 ⟨rfl, hb⟩; have n0_ := Aside0.mk (Kd.R_below (by (with_reducible repeat (first | apply Kd.R_alloc | apply Kd.R_drewN | apply Kd.R_drew)); exact HO_3.out) hb); have n1_ := Aside0.mk (blk_below (g := gb121) (o := .cells #[.int .i64 ((rd_T32 l0 x17_2).f0), .int .i64 ((rd_T32 l0 x17_2).f1), .string ((rd_T32 l0 x17_2).f2), .string ((rd_T32 l0 x17_2).f3), .slice A120_4 ((rd_T32 l0 x17_2).f4).length c120_4, .string ((rd_T32 l0 x17_2).f5)] 32 (0, 0)) (by (with_reducible repeat (first | refine blk_drewN ?_ _ | refine blk_drew ?_ | refine blk_alloc ?_ _)); exact BK121.out) hb); have n2_ := Aside0.mk (below_step (by repeat (first | (with_reducible first | exact HB.out | apply below_alloc | apply pw_below_drewN | apply below_drew1 | refine below_set ?_ GE121.out) | exact HB.out)) hb); clear HO_3; clear BK121; clear HB; have HO_3 := n0_; have BK121 := n1_; have HB := n2_; clear n0_ n1_ n2_; (try clear hb); (try clear hb2); (try clear hk); (try clear hi))); try go_wp2_with (first | (go_at_call 17; (with_reducible refine (canon_alone.calls ((rd_T32 l0 x17_2).f0) ((rd_T32 l0 x17_2).f1) ((rd_T32 l0 x17_2).f2) ((rd_T32 l0 x17_2).f3) _ _ ((rd_T32 l0 x17_2).f4) ((rd_T32 l0 x17_2).f5) true _ ?side1 ?side2 A47.out (tabs_b HT.out (by repeat (first | (with_reducible first | exact HB.out | apply below_alloc | apply pw_below_drewN | apply below_drew1 | refine below_set ?_ GE121.out) | exact HB.out)))).mono ?_); (case side1 => repeat (first | exact (Kd.C_below HR120_4.out HB.out) | (with_reducible refine Kd.C_alloc ?_ _) | (with_reducible refine Kd.C_drewN ?_ _) | (with_reducible refine Kd.C_drew ?_))); (case side2 => exact HC120_4.out); rintro e w52 ⟨rfl, hb⟩; have n0_ := Aside0.mk (Kd.R_below (by (with_reducible repeat (first | apply Kd.R_alloc | apply Kd.R_drewN | apply Kd.R_drew)); exact HO_3.out) hb); have n1_ := Aside0.mk (blk_below (g := gb121) (o := .cells #[.int .i64 ((rd_T32 l0 x17_2).f0), .int .i64 ((rd_T32 l0 x17_2).f1), .string ((rd_T32 l0 x17_2).f2), .string ((rd_T32 l0 x17_2).f3), .slice A120_4 ((rd_T32 l0 x17_2).f4).length c120_4, .string ((rd_T32 l0 x17_2).f5)] 32 (0, 0)) (by (with_reducible repeat (first | refine blk_drewN ?_ _ | refine blk_drew ?_ | refine blk_alloc ?_ _)); exact BK121.out) hb); have n2_ := Aside0.mk (below_step (by repeat (first | (with_reducible first | exact HB.out | apply below_alloc | apply pw_below_drewN | apply below_drew1 | refine below_set ?_ GE121.out) | exact HB.out)) hb); clear HO_3; clear BK121; clear HB; have HO_3 := n0_; have BK121 := n1_; have HB := n2_; clear n0_ n1_ n2_; (try clear hb); (try clear hb2); (try clear hk); (try clear hi))))
             go_ret
             exact ⟨by first | rfl | (simp only [nemp]; rfl) | (simp [errW_none, errW_some] <;> rfl) | (simp [*, errW_none, errW_some] <;> rfl), by repeat (first | (with_reducible first | exact HB.out | apply below_alloc | apply pw_below_drewN | apply below_drew1 | refine below_set ?_ GE121.out) | exact HB.out)⟩
            rw [if_neg c49] at H
            have c49b0 : decide (12 ≤ (x3_3.length : Int)) = false := decide_eq_false c49
            have c49b1 : decide (12 ≤ x3_3.length) = false := decide_eq_false (by omega)
            clear c49
            by_cases c53 : x3_3.length < 17592186044416
            ·rw [if_pos c53] at H
             have LMc53 := Aside0.mk c53
             clear c53
             obtain ⟨y132, hy132⟩ : ∃ y_ : List Int, y_ = (x3_3 ++ [x17_2]) := ⟨_, rfl⟩
             replace H : (canon_Right.l0 k3 l0 y132 l0 (l0.length : Int) (wrap64 (x17_2 + 1))) = some r := by first | (rw [hy132]; with_reducible exact H) | (have H2_ := (Option.bind_some _ _).symm.trans H; rw [hy132]; with_reducible exact H2_) | (have H2_ := (Option.bind_some _ _).symm.trans H; with_reducible exact H2_) | with_reducible exact H | (rw [hy132]; exact H) | exact H
             have Ny132 := Aside0.mk hy132
             clear hy132
             have H' := Aside0.mk H
             clear H
             obtain ⟨Ao54, co54, eo54⟩ := Kd.R_slice HO_3.out
             subst eo54
             have hcz55_0 : wr.cell? ⟨gb121, 0, none⟩ = some (.int .i64 ((rd_T32 l0 x17_2).f0)) := (blk_cell BK121.out 0).trans rfl
             have hcz55_1 : wr.cell? ⟨gb121, 1, none⟩ = some (.int .i64 ((rd_T32 l0 x17_2).f1)) := (blk_cell BK121.out 1).trans rfl
             have hcz55_2 : wr.cell? ⟨gb121, 2, none⟩ = some (.string ((rd_T32 l0 x17_2).f2)) := (blk_cell BK121.out 2).trans rfl
             have hcz55_3 : wr.cell? ⟨gb121, 3, none⟩ = some (.string ((rd_T32 l0 x17_2).f3)) := (blk_cell BK121.out 3).trans rfl
             have hcz55_4 : wr.cell? ⟨gb121, 4, none⟩ = some (.slice A120_4 ((rd_T32 l0 x17_2).f4).length c120_4) := (blk_cell BK121.out 4).trans rfl
             have hcz55_5 : wr.cell? ⟨gb121, 5, none⟩ = some (.string ((rd_T32 l0 x17_2).f5)) := (blk_cell BK121.out 5).trans rfl
             have hfz55_0 := blk_frozen BK121.out 0
             have hfz55_1 := blk_frozen BK121.out 1
             have hfz55_2 := blk_frozen BK121.out 2
             have hfz55_3 := blk_frozen BK121.out 3
             have hfz55_4 := blk_frozen BK121.out 4
             have hfz55_5 := blk_frozen BK121.out 5
             go_wp2_with (first | (go_at_call 17; (with_reducible refine (canon_alone.calls ((rd_T32 l0 x17_2).f0) ((rd_T32 l0 x17_2).f1) ((rd_T32 l0 x17_2).f2) ((rd_T32 l0 x17_2).f3) _ _ ((rd_T32 l0 x17_2).f4) ((rd_T32 l0 x17_2).f5) true _ ?side1 ?side2 A47.out (tabs_b HT.out (by repeat (first | (with_reducible first | exact HB.out | apply below_alloc | apply pw_below_drewN | apply below_drew1 | refine below_set ?_ GE121.out) | exact HB.out)))).mono ?_); (case side1 => repeat (first | exact (Kd.C_below HR120_4.out HB.out) | (with_reducible refine Kd.C_alloc ?_ _) | (with_reducible refine Kd.C_drewN ?_ _) | (with_reducible refine Kd.C_drew ?_))); (case side2 => exact HC120_4.out); rintro e w56 ⟨rfl, hb⟩; have n0_ := Aside0.mk (Kd.R_below (by (with_reducible repeat (first | apply Kd.R_alloc | apply Kd.R_drewN | apply Kd.R_drew)); exact HO_3.out) hb); have n1_ := Aside0.mk (blk_below (g := gb121) (o := .cells #[.int .i64 ((rd_T32 l0 x17_2).f0), .int .i64 ((rd_T32 l0 x17_2).f1), .string ((rd_T32 l0 x17_2).f2), .string ((rd_T32 l0 x17_2).f3), .slice A120_4 ((rd_T32 l0 x17_2).f4).length c120_4, .string ((rd_T32 l0 x17_2).f5)] 32 (0, 0)) (by (with_reducible repeat (first | refine blk_drewN ?_ _ | refine blk_drew ?_ | refine blk_alloc ?_ _)); exact BK121.out) hb); have n2_ := Aside0.mk (below_step (by repeat (first | (with_reducible first | exact HB.out | apply below_alloc | apply pw_below_drewN | apply below_drew1 | refine below_set ?_ GE121.out) | exact HB.out)) hb); clear HO_3; clear BK121; clear HB; have HO_3 := n0_; have BK121 := n1_; have HB := n2_; clear n0_ n1_ n2_; (try clear hb); (try clear hb2); (try clear hk); (try clear hi)) | ((with_reducible refine gate_builtin (b := .append) (xs := #[.tmp 79, .tmp 81]) rfl ?_); (try (refine gate_guard (by rfl) ?_; dsimp only)); at_builtin; refine Kd.R_append (Kd.int .i64) (w0 := w) w.heap.size rfl (.tmp 79) (.tmp 81) 36 3 (.int .i64 0) 8 rfl Tryd.underlying36 info3 rfl (by decide) (by omega) (.slice Ao54 x3_3.length co54) x3_3 x17_2 [.int .i64 x17_2] (fun _ => True) (fun _ => False) rfl rfl ?aP (fun _ hk => hk.elim) ?aF ?aO ?aB ?aS ?aL ?_; (case aP => exact rfl); (case aB => exact (by repeat (first | (with_reducible first | exact HB.out | apply below_alloc | apply pw_below_drewN | apply below_drew1 | refine below_set ?_ GE121.out) | exact HB.out))); (case aF => exact (fun _ _ => trivial)); (case aO => exact (by (with_reducible repeat (first | apply Kd.R_alloc | apply Kd.R_drewN | apply Kd.R_drew)); exact HO_3.out)); (case aS => exact (below_size (by repeat (first | (with_reducible first | exact HB.out | apply below_alloc | apply pw_below_drewN | apply below_drew1 | refine below_set ?_ GE121.out) | exact HB.out)))); (case aL => have := LMc53.out; omega); intro v133 w57 ho hb hg hat; rw [← Ny132.out] at ho; have n0_ := Aside0.mk (blk_grown (g := gb121) (o := .cells #[.int .i64 ((rd_T32 l0 x17_2).f0), .int .i64 ((rd_T32 l0 x17_2).f1), .string ((rd_T32 l0 x17_2).f2), .string ((rd_T32 l0 x17_2).f3), .slice A120_4 ((rd_T32 l0 x17_2).f4).length c120_4, .string ((rd_T32 l0 x17_2).f5)] 32 (0, 0)) (by (with_reducible repeat (first | refine blk_drewN ?_ _ | refine blk_drew ?_ | refine blk_alloc ?_ _)); exact BK121.out) hg (Kd.R_ne HO_3.out BK121.out (by decide))); have n1_ := Aside0.mk (hb); have n2_ := Aside0.mk (ho); clear BK121; clear HB; clear HO_3; have BK121 := n0_; have HB := n1_; have HO134 := n2_; clear n0_ n1_ n2_; clear ho hb hg hat))
             repeat (go_quiet (first | (go_at_call 17; (with_reducible refine (canon_alone.calls ((rd_T32 l0 x17_2).f0) ((rd_T32 l0 x17_2).f1) ((rd_T32 l0 x17_2).f2) ((rd_T32 l0 x17_2).f3) _ _ ((rd_T32 l0 x17_2).f4) ((rd_T32 l0 x17_2).f5) true _ ?side1 ?side2 A47.out (tabs_b HT.out (by repeat (first | (with_reducible first | exact HB.out | apply below_alloc | apply pw_below_drewN | apply below_drew1 | refine below_set ?_ GE121.out) | exact HB.out)))).mono ?_); (case side1 => repeat (first | exact (Kd.C_below HR120_4.out HB.out) | (with_reducible refine Kd.C_alloc ?_ _) | (with_reducible refine Kd.C_drewN ?_ _) | (with_reducible refine Kd.C_drew ?_))); (case side2 => exact HC120_4.out); rintro e w56 ⟨rfl, hb⟩; have n0_ := Aside0.mk (Kd.R_below (by (with_reducible repeat (first | apply Kd.R_alloc | apply Kd.R_drewN | apply Kd.R_drew)); exact HO_3.out) hb); have n1_ := Aside0.mk (blk_below (g := gb121) (o := .cells #[.int .i64 ((rd_T32 l0 x17_2).f0), .int .i64 ((rd_T32 l0 x17_2).f1), .string ((rd_T32 l0 x17_2).f2), .string ((rd_T32 l0 x17_2).f3), .slice A120_4 ((rd_T32 l0 x17_2).f4).length c120_4, .string ((rd_T32 l0 x17_2).f5)] 32 (0, 0)) (by (with_reducible repeat (first | refine blk_drewN ?_ _ | refine blk_drew ?_ | refine blk_alloc ?_ _)); exact BK121.out) hb); have n2_ := Aside0.mk (below_step (by repeat (first | (with_reducible first | exact HB.out | apply below_alloc | apply pw_below_drewN | apply below_drew1 | refine below_set ?_ GE121.out) | exact HB.out)) hb); clear HO_3; clear BK121; clear HB; have HO_3 := n0_; have BK121 := n1_; have HB := n2_; clear n0_ n1_ n2_; (try clear hb); (try clear hb2); (try clear hk); (try clear hi)) | ((with_reducible refine gate_builtin (b := .append) (xs := #[.tmp 79, .tmp 81]) rfl ?_); (try (refine gate_guard (by rfl) ?_; dsimp only)); at_builtin; refine Kd.R_append (Kd.int .i64) (w0 := w) w.heap.size rfl (.tmp 79) (.tmp 81) 36 3 (.int .i64 0) 8 rfl Tryd.underlying36 info3 rfl (by decide) (by omega) (.slice Ao54 x3_3.length co54) x3_3 x17_2 [.int .i64 x17_2] (fun _ => True) (fun _ => False) rfl rfl ?aP (fun _ hk => hk.elim) ?aF ?aO ?aB ?aS ?aL ?_; (case aP => exact rfl); (case aB => exact (by repeat (first | (with_reducible first | exact HB.out | apply below_alloc | apply pw_below_drewN | apply below_drew1 | refine below_set ?_ GE121.out) | exact HB.out))); (case aF => exact (fun _ _ => trivial)); (case aO => exact (by (with_reducible repeat (first | apply Kd.R_alloc | apply Kd.R_drewN | apply Kd.R_drew)); exact HO_3.out)); (case aS => exact (below_size (by repeat (first | (with_reducible first | exact HB.out | apply below_alloc | apply pw_below_drewN | apply below_drew1 | refine below_set ?_ GE121.out) | exact HB.out)))); (case aL => have := LMc53.out; omega); intro v133 w57 ho hb hg hat; rw [← Ny132.out] at ho; have n0_ := Aside0.mk (blk_grown (g := gb121) (o := .cells #[.int .i64 ((rd_T32 l0 x17_2).f0), .int .i64 ((rd_T32 l0 x17_2).f1), .string ((rd_T32 l0 x17_2).f2), .string ((rd_T32 l0 x17_2).f3), .slice A120_4 ((rd_T32 l0 x17_2).f4).length c120_4, .string ((rd_T32 l0 x17_2).f5)] 32 (0, 0)) (by (with_reducible repeat (first | refine blk_drewN ?_ _ | refine blk_drew ?_ | refine blk_alloc ?_ _)); exact BK121.out) hg (Kd.R_ne HO_3.out BK121.out (by decide))); have n1_ := Aside0.mk (hb); have n2_ := Aside0.mk (ho); clear BK121; clear HB; clear HO_3; have BK121 := n0_; have HB := n1_; have HO134 := n2_; clear n0_ n1_ n2_; clear ho hb hg hat)); try go_wp2_with (first | (go_at_call 17; (with_reducible refine (canon_alone.calls ((rd_T32 l0 x17_2).f0) ((rd_T32 l0 x17_2).f1) ((rd_T32 l0 x17_2).f2) ((rd_T32 l0 x17_2).f3) _ _ ((rd_T32 l0 x17_2).f4) ((rd_T32 l0 x17_2).f5) true _ ?side1 ?side2 A47.out (tabs_b HT.out (by repeat (first | (with_reducible first | exact HB.out | apply below_alloc | apply pw_below_drewN | apply below_drew1 | refine below_set ?_ GE121.out) | exact HB.out)))).mono ?_); (case side1 => repeat (first | exact (Kd.C_below HR120_4.out HB.out) | (with_reducible refine Kd.C_alloc ?_ _) | (with_reducible refine Kd.C_drewN ?_ _) | (with_reducible refine Kd.C_drew ?_))); (case side2 => exact HC120_4.out); rintro e w56 ⟨rfl, hb⟩; have n0_ := Aside0.mk (Kd.R_below (by (with_reducible repeat (first | apply Kd.R_alloc | apply Kd.R_drewN | apply Kd.R_drew)); exact HO_3.out) hb); have n1_ := Aside0.mk (blk_below (g := gb121) (o := .cells #[.int .i64 ((rd_T32 l0 x17_2).f0), .int .i64 ((rd_T32 l0 x17_2).f1), .string ((rd_T32 l0 x17_2).f2), .string ((rd_T32 l0 x17_2).f3), .slice A120_4 ((rd_T32 l0 x17_2).f4).length c120_4, .string ((rd_T32 l0 x17_2).f5)] 32 (0, 0)) (by (with_reducible repeat (first | refine blk_drewN ?_ _ | refine blk_drew ?_ | refine blk_alloc ?_ _)); exact BK121.out) hb); have n2_ := Aside0.mk (below_step (by repeat (first | (with_reducible first | exact HB.out | apply below_alloc | apply pw_below_drewN | apply below_drew1 | refine below_set ?_ GE121.out) | exact HB.out)) hb); clear HO_3; clear BK121; clear HB; have HO_3 := n0_; have BK121 := n1_; have HB := n2_; clear n0_ n1_ n2_; (try clear hb); (try clear hb2); (try clear hk); (try clear hi)) | ((with_reducible refine gate_builtin (b := .append) (xs := #[.tmp 79, .tmp 81]) rfl ?_); (try (refine gate_guard (by rfl) ?_; dsimp only)); at_builtin; refine Kd.R_append (Kd.int .i64) (w0 := w) w.heap.size rfl (.tmp 79) (.tmp 81) 36 3 (.int .i64 0) 8 rfl Tryd.underlying36 info3 rfl (by decide) (by omega) (.slice Ao54 x3_3.length co54) x3_3 x17_2 [.int .i64 x17_2] (fun _ => True) (fun _ => False) rfl rfl ?aP (fun _ hk => hk.elim) ?aF ?aO ?aB ?aS ?aL ?_; (case aP => exact rfl); (case aB => exact (by repeat (first | (with_reducible first | exact HB.out | apply below_alloc | apply pw_below_drewN | apply below_drew1 | refine below_set ?_ GE121.out) | exact HB.out))); (case aF => exact (fun _ _ => trivial)); (case aO => exact (by (with_reducible repeat (first | apply Kd.R_alloc | apply Kd.R_drewN | apply Kd.R_drew)); exact HO_3.out)); (case aS => exact (below_size (by repeat (first | (with_reducible first | exact HB.out | apply below_alloc | apply pw_below_drewN | apply below_drew1 | refine below_set ?_ GE121.out) | exact HB.out)))); (case aL => have := LMc53.out; omega); intro v133 w57 ho hb hg hat; rw [← Ny132.out] at ho; have n0_ := Aside0.mk (blk_grown (g := gb121) (o := .cells #[.int .i64 ((rd_T32 l0 x17_2).f0), .int .i64 ((rd_T32 l0 x17_2).f1), .string ((rd_T32 l0 x17_2).f2), .string ((rd_T32 l0 x17_2).f3), .slice A120_4 ((rd_T32 l0 x17_2).f4).length c120_4, .string ((rd_T32 l0 x17_2).f5)] 32 (0, 0)) (by (with_reducible repeat (first | refine blk_drewN ?_ _ | refine blk_drew ?_ | refine blk_alloc ?_ _)); exact BK121.out) hg (Kd.R_ne HO_3.out BK121.out (by decide))); have n1_ := Aside0.mk (hb); have n2_ := Aside0.mk (ho); clear BK121; clear HB; clear HO_3; have BK121 := n0_; have HB := n1_; have HO134 := n2_; clear n0_ n1_ n2_; clear ho hb hg hat)))
             go_roundg k3
             case measure => have := HJ1.out; have := HK2.out; have := HK3.out; omega
             case rel => exact ⟨(y132), (wrap64 (x17_2 + 1)), (by first | rfl | (simp; done) | exact congrArg Value.bool (nemp _) | exact congrArg Value.bool (emp _) | (simp [*]; done)), H', ⟨by have := HJ1.out; have := HK2.out; have := HK3.out; omega⟩, ⟨by (with_reducible repeat (first | apply Kd.R_alloc | apply Kd.R_drewN | apply Kd.R_drew)); exact HO134.out⟩, ⟨by repeat (first | (with_reducible first | exact HB.out | apply below_alloc | apply pw_below_drewN | apply below_drew1 | refine below_set ?_ GE121.out) | exact HB.out)⟩⟩
            rw [if_neg c53] at H
            exact absurd H (by simp)
           replace c48 := Bool.eq_false_iff.mpr c48
           subst c48
           have H1 : (some false) = some r := by rw [if_neg (show ¬ (false = true) by decide)] at H; exact H
           clear H
           have H := H1
           clear H1
           obtain rfl := Option.some.inj H
           obtain ⟨Ao58, co58, eo58⟩ := Kd.R_slice HO_3.out
           subst eo58
           have hcz59_0 : wr.cell? ⟨gb121, 0, none⟩ = some (.int .i64 ((rd_T32 l0 x17_2).f0)) := (blk_cell BK121.out 0).trans rfl
           have hcz59_1 : wr.cell? ⟨gb121, 1, none⟩ = some (.int .i64 ((rd_T32 l0 x17_2).f1)) := (blk_cell BK121.out 1).trans rfl
           have hcz59_2 : wr.cell? ⟨gb121, 2, none⟩ = some (.string ((rd_T32 l0 x17_2).f2)) := (blk_cell BK121.out 2).trans rfl
           have hcz59_3 : wr.cell? ⟨gb121, 3, none⟩ = some (.string ((rd_T32 l0 x17_2).f3)) := (blk_cell BK121.out 3).trans rfl
           have hcz59_4 : wr.cell? ⟨gb121, 4, none⟩ = some (.slice A120_4 ((rd_T32 l0 x17_2).f4).length c120_4) := (blk_cell BK121.out 4).trans rfl
           have hcz59_5 : wr.cell? ⟨gb121, 5, none⟩ = some (.string ((rd_T32 l0 x17_2).f5)) := (blk_cell BK121.out 5).trans rfl
           have hfz59_0 := blk_frozen BK121.out 0
           have hfz59_1 := blk_frozen BK121.out 1
           have hfz59_2 := blk_frozen BK121.out 2
           have hfz59_3 := blk_frozen BK121.out 3
           have hfz59_4 := blk_frozen BK121.out 4
           have hfz59_5 := blk_frozen BK121.out 5
           go_wp2_with (first | (go_at_call 17; (with_reducible refine (canon_alone.calls ((rd_T32 l0 x17_2).f0) ((rd_T32 l0 x17_2).f1) ((rd_T32 l0 x17_2).f2) ((rd_T32 l0 x17_2).f3) _ _ ((rd_T32 l0 x17_2).f4) ((rd_T32 l0 x17_2).f5) false _ ?side1 ?side2 A47.out (tabs_b HT.out (by repeat (first | (with_reducible first | exact HB.out | apply below_alloc | apply pw_below_drewN | apply below_drew1 | refine below_set ?_ GE121.out) | exact HB.out)))).mono ?_); (case side1 => repeat (first | exact (Kd.C_below HR120_4.out HB.out) | (with_reducible refine Kd.C_alloc ?_ _) | (with_reducible refine Kd.C_drewN ?_ _) | (with_reducible refine Kd.C_drew ?_))); (case side2 => exact HC120_4.out); rintro e w60 ⟨rfl, hb⟩; have n0_ := Aside0.mk (Kd.R_below (by (with_reducible repeat (first | apply Kd.R_alloc | apply Kd.R_drewN | apply Kd.R_drew)); exact HO_3.out) hb); have n1_ := Aside0.mk (blk_below (g := gb121) (o := .cells #[.int .i64 ((rd_T32 l0 x17_2).f0), .int .i64 ((rd_T32 l0 x17_2).f1), .string ((rd_T32 l0 x17_2).f2), .string ((rd_T32 l0 x17_2).f3), .slice A120_4 ((rd_T32 l0 x17_2).f4).length c120_4, .string ((rd_T32 l0 x17_2).f5)] 32 (0, 0)) (by (with_reducible repeat (first | refine blk_drewN ?_ _ | refine blk_drew ?_ | refine blk_alloc ?_ _)); exact BK121.out) hb); have n2_ := Aside0.mk (below_step (by repeat (first | (with_reducible first | exact HB.out | apply below_alloc | apply pw_below_drewN | apply below_drew1 | refine below_set ?_ GE121.out) | exact HB.out)) hb); clear HO_3; clear BK121; clear HB; have HO_3 := n0_; have BK121 := n1_; have HB := n2_; clear n0_ n1_ n2_; (try clear hb); (try clear hb2); (try clear hk); (try clear hi)))
           repeat (go_quiet (first | (go_at_call 17; (with_reducible refine (canon_alone.calls ((rd_T32 l0 x17_2).f0) ((rd_T32 l0 x17_2).f1) ((rd_T32 l0 x17_2).f2) ((rd_T32 l0 x17_2).f3) _ _ ((rd_T32 l0 x17_2).f4) ((rd_T32 l0 x17_2).f5) false _ ?side1 ?side2 A47.out (tabs_b HT.out (by repeat (first | (with_reducible first | exact HB.out | apply below_alloc | apply pw_below_drewN | apply below_drew1 | refine below_set ?_ GE121.out) | exact HB.out)))).mono ?_); (case side1 => repeat (first | exact (Kd.C_below HR120_4.out HB.out) | (with_reducible refine Kd.C_alloc ?_ _) | (with_reducible refine Kd.C_drewN ?_ _) | (with_reducible refine Kd.C_drew ?_))); (case side2 => exact HC120_4.out); rintro e w60 ⟨rfl, hb⟩; have n0_ := Aside0.mk (Kd.R_below (by (with_reducible repeat (first | apply Kd.R_alloc | apply Kd.R_drewN | apply Kd.R_drew)); exact HO_3.out) hb); have n1_ := Aside0.mk (blk_below (g := gb121) (o := .cells #[.int .i64 ((rd_T32 l0 x17_2).f0), .int .i64 ((rd_T32 l0 x17_2).f1), .string ((rd_T32 l0 x17_2).f2), .string ((rd_T32 l0 x17_2).f3), .slice A120_4 ((rd_T32 l0 x17_2).f4).length c120_4, .string ((rd_T32 l0 x17_2).f5)] 32 (0, 0)) (by (with_reducible repeat (first | refine blk_drewN ?_ _ | refine blk_drew ?_ | refine blk_alloc ?_ _)); exact BK121.out) hb); have n2_ := Aside0.mk (below_step (by repeat (first | (with_reducible first | exact HB.out | apply below_alloc | apply pw_below_drewN | apply below_drew1 | refine below_set ?_ GE121.out) | exact HB.out)) hb); clear HO_3; clear BK121; clear HB; have HO_3 := n0_; have BK121 := n1_; have HB := n2_; clear n0_ n1_ n2_; (try clear hb); (try clear hb2); (try clear hk); (try clear hi))); try go_wp2_with (first | (go_at_call 17; (with_reducible refine (canon_alone.calls ((rd_T32 l0 x17_2).f0) ((rd_T32 l0 x17_2).f1) ((rd_T32 l0 x17_2).f2) ((rd_T32 l0 x17_2).f3) _ _ ((rd_T32 l0 x17_2).f4) ((rd_T32 l0 x17_2).f5) false _ ?side1 ?side2 A47.out (tabs_b HT.out (by repeat (first | (with_reducible first | exact HB.out | apply below_alloc | apply pw_below_drewN | apply below_drew1 | refine below_set ?_ GE121.out) | exact HB.out)))).mono ?_); (case side1 => repeat (first | exact (Kd.C_below HR120_4.out HB.out) | (with_reducible refine Kd.C_alloc ?_ _) | (with_reducible refine Kd.C_drewN ?_ _) | (with_reducible refine Kd.C_drew ?_))); (case side2 => exact HC120_4.out); rintro e w60 ⟨rfl, hb⟩; have n0_ := Aside0.mk (Kd.R_below (by (with_reducible repeat (first | apply Kd.R_alloc | apply Kd.R_drewN | apply Kd.R_drew)); exact HO_3.out) hb); have n1_ := Aside0.mk (blk_below (g := gb121) (o := .cells #[.int .i64 ((rd_T32 l0 x17_2).f0), .int .i64 ((rd_T32 l0 x17_2).f1), .string ((rd_T32 l0 x17_2).f2), .string ((rd_T32 l0 x17_2).f3), .slice A120_4 ((rd_T32 l0 x17_2).f4).length c120_4, .string ((rd_T32 l0 x17_2).f5)] 32 (0, 0)) (by (with_reducible repeat (first | refine blk_drewN ?_ _ | refine blk_drew ?_ | refine blk_alloc ?_ _)); exact BK121.out) hb); have n2_ := Aside0.mk (below_step (by repeat (first | (with_reducible first | exact HB.out | apply below_alloc | apply pw_below_drewN | apply below_drew1 | refine below_set ?_ GE121.out) | exact HB.out)) hb); clear HO_3; clear BK121; clear HB; have HO_3 := n0_; have BK121 := n1_; have HB := n2_; clear n0_ n1_ n2_; (try clear hb); (try clear hb2); (try clear hk); (try clear hi))))
           go_ret
           exact ⟨by first | rfl | (simp only [nemp]; rfl) | (simp [errW_none, errW_some] <;> rfl) | (simp [*, errW_none, errW_some] <;> rfl), by repeat (first | (with_reducible first | exact HB.out | apply below_alloc | apply pw_below_drewN | apply below_drew1 | refine below_set ?_ GE121.out) | exact HB.out)⟩
          rw [if_neg c46] at H
          have c46b0 : (((rd_T32 l0 x17_2).f0) == (-1)) = false := beq_eq_false_iff_ne.mpr c46
          have c46b1 : (((rd_T32 l0 x17_2).f0) != (-1)) = true := bne_iff_ne.mpr c46
          obtain rfl := Option.some.inj H
          obtain ⟨Ao61, co61, eo61⟩ := Kd.R_slice HO_3.out
          subst eo61
          have hcz62_0 : wr.cell? ⟨gb121, 0, none⟩ = some (.int .i64 ((rd_T32 l0 x17_2).f0)) := (blk_cell BK121.out 0).trans rfl
          have hcz62_1 : wr.cell? ⟨gb121, 1, none⟩ = some (.int .i64 ((rd_T32 l0 x17_2).f1)) := (blk_cell BK121.out 1).trans rfl
          have hcz62_2 : wr.cell? ⟨gb121, 2, none⟩ = some (.string ((rd_T32 l0 x17_2).f2)) := (blk_cell BK121.out 2).trans rfl
          have hcz62_3 : wr.cell? ⟨gb121, 3, none⟩ = some (.string ((rd_T32 l0 x17_2).f3)) := (blk_cell BK121.out 3).trans rfl
          have hcz62_4 : wr.cell? ⟨gb121, 4, none⟩ = some (.slice A120_4 ((rd_T32 l0 x17_2).f4).length c120_4) := (blk_cell BK121.out 4).trans rfl
          have hcz62_5 : wr.cell? ⟨gb121, 5, none⟩ = some (.string ((rd_T32 l0 x17_2).f5)) := (blk_cell BK121.out 5).trans rfl
          have hfz62_0 := blk_frozen BK121.out 0
          have hfz62_1 := blk_frozen BK121.out 1
          have hfz62_2 := blk_frozen BK121.out 2
          have hfz62_3 := blk_frozen BK121.out 3
          have hfz62_4 := blk_frozen BK121.out 4
          have hfz62_5 := blk_frozen BK121.out 5
          go_wp2
          repeat (go_quiet (fail); try go_wp2)
          go_ret
          exact ⟨by first | rfl | (simp only [nemp]; rfl) | (simp [errW_none, errW_some] <;> rfl) | (simp [*, errW_none, errW_some] <;> rfl), by repeat (first | (with_reducible first | exact HB.out | apply below_alloc | apply pw_below_drewN | apply below_drew1 | refine below_set ?_ GE121.out) | exact HB.out)⟩
       rw [if_neg c7] at H
       exact absurd H (by simp)
      rw [if_neg c6] at H
      exact absurd H (by simp)
     rw [if_neg c5] at H
     have c5b0 : decide (x17_2 < (l0.length : Int)) = false := decide_eq_false c5
     clear c5
     obtain rfl := Option.some.inj H
     go_wp2
     repeat (go_quiet (fail); try go_wp2)
     go_ret
     exact ⟨by first | rfl | (simp only [nemp]; rfl) | (simp [errW_none, errW_some] <;> rfl) | (simp [*, errW_none, errW_some] <;> rfl), by repeat (first | (with_reducible first | exact HB.out | apply below_alloc | apply pw_below_drewN | apply below_drew1) | exact HB.out)⟩
theorem info_bld : ∃ j, Tryd.prog.info? 44 = some j ∧ j.size ≠ 0 := by
 obtain ⟨j, hj, hs⟩ := Option.map_eq_some_iff.1 (show (Tryd.prog.info? 44).map (·.size) = some 2 by kernel_rfl)
 exact ⟨j, hj, by rw [hs]; decide⟩
set_option maxHeartbeats 4000000 in
set_option maxRecDepth 100000 in
theorem strings_Builder_copyCheck.hof (B b : Nat) (bs : List Value) (w : World) (h : IsBld 44 5 B b bs w) :
  Calls Tryd.prog 22 #[.pointer (some ⟨b, 0, none⟩)] w fun e w' => e = .returned (.tuple #[]) ∧ BldAt 44 5 B b (.pointer (some ⟨b, 0, none⟩)) bs w' ∧ But B b w w' ∧ w'.heap.size = w.heap.size := by
 obtain ⟨j, hj, hjs⟩ := info_bld
 rcases h with ⟨v, hb, ho, hne⟩ | ⟨v, hb, ho, hne⟩
 ·have h0 : w.cell? ⟨b, 0, none⟩ = some (.pointer none) := by rw [Lib.cell_of_heap hb]; rfl
  have hfz : w.frozen? ⟨b, 0, none⟩ = false := Lib.frozen_of_heap hb 0
  have hsh : w.shape? b = some (44, 2) := by simp [World.shape?, hb]
  have hlies : liesAt Tryd.prog Tryd.prog.depth 44 (2 / Tryd.prog.cellsOf 44) 0 44 1 = true := by kernel_rfl
  have HK := Aside0.mk (show BldAt 44 5 B b (.pointer (some ⟨b, 0, none⟩)) bs (w.setCell ⟨b, 0, none⟩ (.pointer (some ⟨b, 0, none⟩))) from ⟨v, by simp [World.setCell, Array.getElem?_modify, hb], ho.kept (row := some b) ⟨rfl, rfl, rfl, by simp [World.setCell], fun k _ hk => Below.heap_setCell _ _ _ _ (fun e => hk (by simp [e]))⟩ (Or.inr hne), hne⟩)
  clear hb ho hne
  go_enter Tryd.func22, Tryd.ntmps22
  go_wp2
  rw [Lib.run_to_unsafe w ⟨b, 0, none⟩ Tryd.underlying42 Tryd.underlying66 hj hjs hsh (Nat.zero_lt_succ 1)]
  simp only [Result.andThen]
  rw [Oper.upon_value]
  go_wp2
  rw [run_callFunc_extern Tryd.func36 (by kernel_rfl) (by kernel_rfl) (by kernel_rfl) (e := Extern.AbiNoEscape.same) (by kernel_rfl)]
  rw [Lib.run_noEscape]
  simp only [Result.andThen]
  rw [Oper.upon_value]
  go_wp2
  rw [Lib.run_from_unsafe w ⟨b, 0, none⟩ Tryd.underlying66 Tryd.underlying42 hj hsh hlies]
  simp only [Result.andThen]
  rw [Oper.upon_value]
  go_wp2
  go_end0
  exact ⟨rfl, HK.out, (But.refl B b w).set 0 _, by simp [World.setCell]⟩
 have h0 : w.cell? ⟨b, 0, none⟩ = some (.pointer (some ⟨b, 0, none⟩)) := by rw [Lib.cell_of_heap hb]; rfl
 have HK := Aside0.mk (show BldAt 44 5 B b (.pointer (some ⟨b, 0, none⟩)) bs w from ⟨v, hb, ho, hne⟩)
 clear hb ho hne
 go_enter Tryd.func22, Tryd.ntmps22
 go_wp2
 rw [Lib.run_neq_ptr_same w _ Tryd.underlying42 hj]
 go_wp2
 go_end0
 exact ⟨rfl, HK.out, But.refl B b w, rfl⟩
set_option maxHeartbeats 4000000 in
set_option maxRecDepth 100000 in
theorem strings_Builder_WriteString.hof (B b : Nat) (bs : List Value) (s : ByteArray) (w : World) (h : IsBld 44 5 B b bs w) (hlen : bs.length + s.size ≤ 140737488355328) (hBw : B ≤ w.heap.size) :
  Calls Tryd.prog 13 #[.pointer (some ⟨b, 0, none⟩), .string s] w fun e w' => e = .returned (.tuple #[.int .i64 s.size, .nilIface]) ∧ IsBld 44 5 B b (bs ++ Lib.strCells s) w' ∧ But B b w w' := by
 obtain ⟨i0, hi, hz0, hz1, hz2⟩ := info_parts info5
 have HC := Aside0.mk (strings_Builder_copyCheck.hof B b bs w h)
 clear h
 go_enter Tryd.func13, Tryd.ntmps13
 go_wp2_with (go_at_call 22; (with_reducible refine HC.out.mono ?_))
 rintro e w1 ⟨rfl, h1, hb1, hs1⟩
 obtain ⟨v, hbk, hown, hne⟩ := h1
 have c0 : w1.cell? ⟨b, 0, none⟩ = some (.pointer (some ⟨b, 0, none⟩)) := by rw [Lib.cell_of_heap hbk]; rfl
 have c1 : w1.cell? ⟨b, 1, none⟩ = some v := by rw [Lib.cell_of_heap hbk]; rfl
 go_wp2_with (at_builtin; refine Lib.wpList_append_own_string _ rfl _ _ 34 9 rfl B 5 i0 Tryd.underlying34 Tryd.underlying9 hi hz0 hz1 hz2 _ _ _ rfl hown s rfl ?c3 ?c4 ?c5 ?_)
 case c3 => unfold maxLen; omega
 case c4 => omega
 case c5 => omega
 intro v' w2 hown' hgrow _
 have hlt : b < w1.heap.size := by
  rcases Nat.lt_or_ge b w1.heap.size with h' | h'
  ·exact h'
  simp [Array.getElem?_eq_none h'] at hbk
 have hb2 : w2.heap[b]? = some (.cells #[.pointer (some ⟨b, 0, none⟩), v] 44 (0, 0)) := by
  rw [hgrow.block b hlt (fun e => hne e.symm)]
  exact hbk
 have d0 : w2.cell? ⟨b, 0, none⟩ = some (.pointer (some ⟨b, 0, none⟩)) := by rw [Lib.cell_of_heap hb2]; rfl
 have d1 : w2.cell? ⟨b, 1, none⟩ = some v := by rw [Lib.cell_of_heap hb2]; rfl
 have f1 : w2.frozen? ⟨b, 1, none⟩ = false := Lib.frozen_of_heap hb2 1
 have HB2 := Aside0.mk hb2
 have HG := Aside0.mk hgrow
 have HO := Aside0.mk hown
 have HO' := Aside0.mk hown'
 have HB1 := Aside0.mk hb1
 obtain ⟨ao, n', cap, rfl⟩ : ∃ ao n' cap, v' = .slice ao n' cap := by
  rcases hown'.2 with ⟨hv, _⟩ | ⟨g, cap, cur, hv, _⟩
  ·exact ⟨_, _, _, hv⟩
  exact ⟨_, _, _, hv⟩
 clear hown hown' hgrow hbk hb2 hb1
 go_wp2
 go_ret2
 refine ⟨rfl, .inr ?_, ?_⟩
 ·have hown2 := HO'.out
  have hne2 := Lib.ownBlock_ne hown2 HB2.out (by decide)
  refine ⟨.slice ao n' cap, (blk_set HB2.out 1 _).trans rfl, ?_, hne2⟩
  have hown3 : w2.ownsRow B 5 1 (.slice ao n' cap) (bs ++ Lib.strCells s).length (bs ++ Lib.strCells s) := by rw [List.length_append, Lib.strCells_length]; exact hown2
  exact hown3.kept (row := some b) ⟨rfl, rfl, rfl, by simp [World.setCell], fun k _ hk => Below.heap_setCell w2 ⟨b, 1, none⟩ _ k (fun e => hk (congrArg some e))⟩ (Or.inr hne2)
 exact (HB1.out.grown HG.out (fun k hk => (HO.out.lt k hk).1) (by omega)).set 1 _
-- NOT PRINTED: function 15 (strings_Builder_String)
def escape_signs.f  : Option (List Int × List ByteArray) := some ((([38, 60, 62, 34, 39, 9, 10, 13] : List Int)), (([(⟨#[38, 97, 109, 112, 59]⟩ : ByteArray), (⟨#[38, 108, 116, 59]⟩ : ByteArray), (⟨#[38, 103, 116, 59]⟩ : ByteArray), (⟨#[38, 113, 117, 111, 116, 59]⟩ : ByteArray), (⟨#[38, 97, 112, 111, 115, 59]⟩ : ByteArray), (⟨#[38, 35, 57, 59]⟩ : ByteArray), (⟨#[38, 35, 49, 48, 59]⟩ : ByteArray), (⟨#[38, 35, 49, 51, 59]⟩ : ByteArray)] : List ByteArray)))
set_option maxHeartbeats 8000000 in
set_option maxRecDepth 100000 in
theorem escape_signs.calls  (r1 : List Int) (r2 : List ByteArray) (w : World) (h : escape_signs.f  = some (r1, r2)) :
  Calls Tryd.prog 37 #[] w fun e w' => ∃ v0_ v1_ : Value, e = .returned (.agg #[v0_, v1_]) ∧ Kd.R (Kd.int .u8) 5 w' w.heap.size (fun _ => True) v0_ r1 ∧ Kd.R Kd.string 9 w' w.heap.size (fun _ => True) v1_ r2 ∧ Below w.heap.size w w' := by
 have hu69 := Tryd.underlying69
 have HB := Aside0.mk (Below.refl w.heap.size w)
 have H : (some ((([38, 60, 62, 34, 39, 9, 10, 13] : List Int)), (([(⟨#[38, 97, 109, 112, 59]⟩ : ByteArray), (⟨#[38, 108, 116, 59]⟩ : ByteArray), (⟨#[38, 103, 116, 59]⟩ : ByteArray), (⟨#[38, 113, 117, 111, 116, 59]⟩ : ByteArray), (⟨#[38, 97, 112, 111, 115, 59]⟩ : ByteArray), (⟨#[38, 35, 57, 59]⟩ : ByteArray), (⟨#[38, 35, 49, 48, 59]⟩ : ByteArray), (⟨#[38, 35, 49, 51, 59]⟩ : ByteArray)] : List ByteArray)))) = some (r1, r2) := h
 clear h
 obtain ⟨y136, hy136⟩ : ∃ y_ : List Int, y_ = (([38, 60, 62, 34, 39, 9, 10, 13] : List Int)) := ⟨_, rfl⟩
 replace H : (some (y136, (([(⟨#[38, 97, 109, 112, 59]⟩ : ByteArray), (⟨#[38, 108, 116, 59]⟩ : ByteArray), (⟨#[38, 103, 116, 59]⟩ : ByteArray), (⟨#[38, 113, 117, 111, 116, 59]⟩ : ByteArray), (⟨#[38, 97, 112, 111, 115, 59]⟩ : ByteArray), (⟨#[38, 35, 57, 59]⟩ : ByteArray), (⟨#[38, 35, 49, 48, 59]⟩ : ByteArray), (⟨#[38, 35, 49, 51, 59]⟩ : ByteArray)] : List ByteArray)))) = some (r1, r2) := by first | (rw [hy136]; with_reducible exact H) | (have H2_ := (Option.bind_some _ _).symm.trans H; rw [hy136]; with_reducible exact H2_) | (have H2_ := (Option.bind_some _ _).symm.trans H; with_reducible exact H2_) | with_reducible exact H | (rw [hy136]; exact H) | exact H
 have Ny136 := Aside0.mk hy136
 clear hy136
 obtain ⟨y139, hy139⟩ : ∃ y_ : List ByteArray, y_ = (([(⟨#[38, 97, 109, 112, 59]⟩ : ByteArray), (⟨#[38, 108, 116, 59]⟩ : ByteArray), (⟨#[38, 103, 116, 59]⟩ : ByteArray), (⟨#[38, 113, 117, 111, 116, 59]⟩ : ByteArray), (⟨#[38, 97, 112, 111, 115, 59]⟩ : ByteArray), (⟨#[38, 35, 57, 59]⟩ : ByteArray), (⟨#[38, 35, 49, 48, 59]⟩ : ByteArray), (⟨#[38, 35, 49, 51, 59]⟩ : ByteArray)] : List ByteArray)) := ⟨_, rfl⟩
 replace H : (some (y136, y139)) = some (r1, r2) := by first | (rw [hy139]; with_reducible exact H) | (have H2_ := (Option.bind_some _ _).symm.trans H; rw [hy139]; with_reducible exact H2_) | (have H2_ := (Option.bind_some _ _).symm.trans H; with_reducible exact H2_) | with_reducible exact H | (rw [hy139]; exact H) | exact H
 have Ny139 := Aside0.mk hy139
 clear hy139
 simp only [Option.some.injEq, Prod.mk.injEq] at H
 obtain ⟨rfl, rfl⟩ := H
 go_enter Tryd.func37, Tryd.ntmps37
 go_wp2_with (first | ((with_reducible refine gate_dst (N := 0) rfl ?_); refine box_event ?hg (N := 0) ?hd (cs := #[.slice none 0 0, .slice none 0 0]) (t := 69) ?hr ?_; (case hd => rfl); (case hg => rfl); (case hr => first | (go_simp; done) | (go_simp; rfl)); intro gb135 hg w1 hbox hb; have n0_ := Aside0.mk (below_step (by repeat (first | (with_reducible first | exact HB.out | apply below_alloc | apply pw_below_drewN | apply below_drew1) | exact HB.out)) hb); have n1_ := Aside0.mk (hbox); have n2_ := Aside0.mk ((by rw [hg]; exact (below_size (by repeat (first | (with_reducible first | exact HB.out | apply below_alloc | apply pw_below_drewN | apply below_drew1) | exact HB.out))) : w.heap.size ≤ gb135)); have n3_ := Aside0.mk ((by rw [hg]; exact (below_size (by repeat (first | (with_reducible first | exact HB.out | apply below_alloc | apply pw_below_drewN | apply below_drew1) | exact HB.out))) : w.heap.size ≤ gb135)); clear HB; have HB := n0_; have BK135 := n1_; have GW135 := n2_; have GE135 := n3_; clear n0_ n1_ n2_ n3_; clear hb hbox hg) | ((with_reducible refine gate_dst (N := 1) rfl ?_); refine Kd.R_lit (Kd.int .u8) _ 5 ?hg (N := 1) ?hd (xs := ([38, 60, 62, 34, 39, 9, 10, 13] : List Int)) (inner := [.int .u8 38, .int .u8 60, .int .u8 62, .int .u8 34, .int .u8 39, .int .u8 9, .int .u8 10, .int .u8 13]) (ok := fun _ => True) (okp := fun _ => True) ?hr ?hp (fun _ hk => hk) trivial (Below.refl _ _) (Nat.le_refl _) (by simp) ?_; (case hd => rfl); (case hg => rfl); (case hr => first | (go_simp; done) | (go_simp; rfl)); (case hp => exact (Reps.one (show Kd.M (Kd.int .u8) _ _ _ 38 [.int .u8 38] from rfl) (Reps.one (show Kd.M (Kd.int .u8) _ _ _ 60 [.int .u8 60] from rfl) (Reps.one (show Kd.M (Kd.int .u8) _ _ _ 62 [.int .u8 62] from rfl) (Reps.one (show Kd.M (Kd.int .u8) _ _ _ 34 [.int .u8 34] from rfl) (Reps.one (show Kd.M (Kd.int .u8) _ _ _ 39 [.int .u8 39] from rfl) (Reps.one (show Kd.M (Kd.int .u8) _ _ _ 9 [.int .u8 9] from rfl) (Reps.one (show Kd.M (Kd.int .u8) _ _ _ 10 [.int .u8 10] from rfl) (Reps.one (show Kd.M (Kd.int .u8) _ _ _ 13 [.int .u8 13] from rfl) (Reps.none _ _)))))))))); intro v137 w2 ho3 hb hg_ hnew_; clear hg_ hnew_; (first | rw [← Ny136.out] at ho3 | (simp only [Int.reduceToNat] at ho3; rw [← Ny136.out] at ho3)); have n0_ := Aside0.mk (Kd.R_lower ho3 (below_size (by repeat (first | (with_reducible first | exact HB.out | apply below_alloc | apply pw_below_drewN | apply below_drew1 | refine below_set ?_ GE135.out) | exact HB.out)))); have n1_ := Aside0.mk (blk_below (g := gb135) (o := .cells #[.slice none 0 0, .slice none 0 0] 69 (0, 0)) (by (with_reducible repeat (first | refine blk_drewN ?_ _ | refine blk_drew ?_ | refine blk_alloc ?_ _)); exact BK135.out) hb); have n2_ := Aside0.mk (below_step (by repeat (first | (with_reducible first | exact HB.out | apply below_alloc | apply pw_below_drewN | apply below_drew1 | refine below_set ?_ GE135.out) | exact HB.out)) hb); clear BK135; clear HB; have HO138 := n0_; have BK135 := n1_; have HB := n2_; clear n0_ n1_ n2_; clear hb ho3) | ((with_reducible refine gate_dst (N := 2) rfl ?_); refine Kd.R_lit Kd.string _ 9 ?hg (N := 2) ?hd (xs := ([(⟨#[38, 97, 109, 112, 59]⟩ : ByteArray), (⟨#[38, 108, 116, 59]⟩ : ByteArray), (⟨#[38, 103, 116, 59]⟩ : ByteArray), (⟨#[38, 113, 117, 111, 116, 59]⟩ : ByteArray), (⟨#[38, 97, 112, 111, 115, 59]⟩ : ByteArray), (⟨#[38, 35, 57, 59]⟩ : ByteArray), (⟨#[38, 35, 49, 48, 59]⟩ : ByteArray), (⟨#[38, 35, 49, 51, 59]⟩ : ByteArray)] : List ByteArray)) (inner := [.string (⟨#[38, 97, 109, 112, 59]⟩ : ByteArray), .string (⟨#[38, 108, 116, 59]⟩ : ByteArray), .string (⟨#[38, 103, 116, 59]⟩ : ByteArray), .string (⟨#[38, 113, 117, 111, 116, 59]⟩ : ByteArray), .string (⟨#[38, 97, 112, 111, 115, 59]⟩ : ByteArray), .string (⟨#[38, 35, 57, 59]⟩ : ByteArray), .string (⟨#[38, 35, 49, 48, 59]⟩ : ByteArray), .string (⟨#[38, 35, 49, 51, 59]⟩ : ByteArray)]) (ok := fun _ => True) (okp := fun _ => True) ?hr ?hp (fun _ hk => hk) trivial (Below.refl _ _) (Nat.le_refl _) (by simp) ?_; (case hd => rfl); (case hg => rfl); (case hr => first | (go_simp; done) | (go_simp; rfl)); (case hp => exact (Reps.one (show Kd.M Kd.string _ _ _ (⟨#[38, 97, 109, 112, 59]⟩ : ByteArray) [.string (⟨#[38, 97, 109, 112, 59]⟩ : ByteArray)] from rfl) (Reps.one (show Kd.M Kd.string _ _ _ (⟨#[38, 108, 116, 59]⟩ : ByteArray) [.string (⟨#[38, 108, 116, 59]⟩ : ByteArray)] from rfl) (Reps.one (show Kd.M Kd.string _ _ _ (⟨#[38, 103, 116, 59]⟩ : ByteArray) [.string (⟨#[38, 103, 116, 59]⟩ : ByteArray)] from rfl) (Reps.one (show Kd.M Kd.string _ _ _ (⟨#[38, 113, 117, 111, 116, 59]⟩ : ByteArray) [.string (⟨#[38, 113, 117, 111, 116, 59]⟩ : ByteArray)] from rfl) (Reps.one (show Kd.M Kd.string _ _ _ (⟨#[38, 97, 112, 111, 115, 59]⟩ : ByteArray) [.string (⟨#[38, 97, 112, 111, 115, 59]⟩ : ByteArray)] from rfl) (Reps.one (show Kd.M Kd.string _ _ _ (⟨#[38, 35, 57, 59]⟩ : ByteArray) [.string (⟨#[38, 35, 57, 59]⟩ : ByteArray)] from rfl) (Reps.one (show Kd.M Kd.string _ _ _ (⟨#[38, 35, 49, 48, 59]⟩ : ByteArray) [.string (⟨#[38, 35, 49, 48, 59]⟩ : ByteArray)] from rfl) (Reps.one (show Kd.M Kd.string _ _ _ (⟨#[38, 35, 49, 51, 59]⟩ : ByteArray) [.string (⟨#[38, 35, 49, 51, 59]⟩ : ByteArray)] from rfl) (Reps.none _ _)))))))))); intro v140 w4 ho5 hb hg_ hnew_; clear hg_ hnew_; (first | rw [← Ny139.out] at ho5 | (simp only [Int.reduceToNat] at ho5; rw [← Ny139.out] at ho5)); have n0_ := Aside0.mk (Kd.R_below (by (with_reducible repeat (first | apply Kd.R_alloc | apply Kd.R_drewN | apply Kd.R_drew)); exact HO138.out) hb); have n1_ := Aside0.mk (Kd.R_lower ho5 (below_size (by repeat (first | (with_reducible first | exact HB.out | apply below_alloc | apply pw_below_drewN | apply below_drew1 | refine below_set ?_ GE135.out) | exact HB.out)))); have n2_ := Aside0.mk (blk_below (g := gb135) (o := .cells #[.slice none 0 0, .slice none 0 0] 69 (0, 0)) (by (with_reducible repeat (first | refine blk_drewN ?_ _ | refine blk_drew ?_ | refine blk_alloc ?_ _)); exact BK135.out) hb); have n3_ := Aside0.mk (below_step (by repeat (first | (with_reducible first | exact HB.out | apply below_alloc | apply pw_below_drewN | apply below_drew1 | refine below_set ?_ GE135.out) | exact HB.out)) hb); clear HO138; clear BK135; clear HB; have HO138 := n0_; have HO141 := n1_; have BK135 := n2_; have HB := n3_; clear n0_ n1_ n2_ n3_; clear hb ho5; obtain ⟨Ao6, co6, eo6⟩ := Kd.R_slice HO141.out; subst eo6; obtain ⟨Ao7, co7, eo7⟩ := Kd.R_slice HO138.out; subst eo7; have hcz8_0 : w4.cell? ⟨gb135, 0, none⟩ = some (.slice none 0 0) := (blk_cell BK135.out 0).trans rfl; have hcz8_1 : w4.cell? ⟨gb135, 1, none⟩ = some (.slice none 0 0) := (blk_cell BK135.out 1).trans rfl; have hfz8_0 := blk_frozen BK135.out 0; have hfz8_1 := blk_frozen BK135.out 1))
 refine bodyPost_ret (results_cell_row rfl _ _ gb135 69 #[.slice Ao7 y136.length co7, .slice Ao6 y139.length co6] (0, 0) _ rfl (by (with_reducible repeat (first | refine blk_drewN ?_ _ | refine blk_drew ?_ | refine blk_alloc ?_ _)); refine blk_put (cs := #[.slice Ao7 y136.length co7, .slice none 0 0]) ?_ 1 _ rfl; (with_reducible repeat (first | refine blk_drewN ?_ _ | refine blk_drew ?_ | refine blk_alloc ?_ _)); refine blk_put (cs := #[.slice none 0 0, .slice none 0 0]) ?_ 0 _ rfl; (with_reducible repeat (first | refine blk_drewN ?_ _ | refine blk_drew ?_ | refine blk_alloc ?_ _)); exact BK135.out) Tryd.underlying69 rfl (by kernel_rfl)) rfl ?_
 exact ⟨_, _, by first | rfl | (simp only [nemp]; rfl) | (simp [errW_none, errW_some] <;> rfl) | (simp [*, errW_none, errW_some] <;> rfl), by (with_reducible repeat (first | apply Kd.R_alloc | apply Kd.R_drewN | apply Kd.R_drew)); exact Kd.R_mono (Kd.R_far (p := ⟨gb135, 1, none⟩) (Kd.R_far (p := ⟨gb135, 0, none⟩) (Kd.R_types HO138.out BK135.out (by decide)) (fun _ hk => hk.2) (.slice Ao7 y136.length co7)) (fun _ hk => hk.2) (.slice Ao6 y139.length co6)) (fun _ hk => trivial), by (with_reducible repeat (first | apply Kd.R_alloc | apply Kd.R_drewN | apply Kd.R_drew)); exact Kd.R_mono (Kd.R_far (p := ⟨gb135, 1, none⟩) (Kd.R_far (p := ⟨gb135, 0, none⟩) (Kd.R_types HO141.out BK135.out (by decide)) (fun _ hk => hk.2) (.slice Ao7 y136.length co7)) (fun _ hk => hk.2) (.slice Ao6 y139.length co6)) (fun _ hk => trivial), by repeat (first | (with_reducible first | exact HB.out | apply below_alloc | apply pw_below_drewN | apply below_drew1 | refine below_set ?_ GE135.out) | exact HB.out)⟩
def escape_at_string.f (l0 : List ByteArray) (a1 : Int) : Option (ByteArray × Bool) := if a1 < 0 then (some ((⟨#[]⟩ : ByteArray), false)) else (if a1 ≥ (l0.length : Int) then (some ((⟨#[]⟩ : ByteArray), false)) else (if 0 ≤ a1 then (if a1 < (l0.length : Int) then (some (rdOf ByteArray.empty l0 a1, true)) else (none)) else (none)))
set_option maxHeartbeats 8000000 in
set_option maxRecDepth 100000 in
theorem escape_at_string.calls (A0 : Option Addr) (c0 : Nat) (l0 : List ByteArray) (a1 : Int) (r1 : ByteArray) (r2 : Bool) (w : World) (hr0 : Kd.C Kd.string w A0 l0.length l0) (hc0 : l0.length ≤ c0) (h : escape_at_string.f l0 a1 = some (r1, r2)) :
  Calls Tryd.prog 44 #[.slice A0 l0.length c0, .int .i64 a1] w fun e w' => e = .returned (.tuple #[.string r1, .bool r2]) ∧ Drawn0 w w' := by
 have HR0 := Aside0.mk hr0
 have HC0 := Aside0.mk hc0
 clear hr0 hc0
 have H : (if a1 < 0 then (some ((⟨#[]⟩ : ByteArray), false)) else (if a1 ≥ (l0.length : Int) then (some ((⟨#[]⟩ : ByteArray), false)) else (if 0 ≤ a1 then (if a1 < (l0.length : Int) then (some (rdOf ByteArray.empty l0 a1, true)) else (none)) else (none)))) = some (r1, r2) := h
 clear h
 by_cases c3 : a1 < 0
 ·rw [if_pos c3] at H
  have c3b0 : decide (a1 < 0) = true := decide_eq_true c3
  clear c3
  simp only [Option.some.injEq, Prod.mk.injEq] at H
  obtain ⟨rfl, rfl⟩ := H
  go_enter Tryd.func44, Tryd.ntmps44
  go_wp2
  go_ret2
  exact ⟨by first | rfl | (simp; done) | exact congrArg Value.bool (nemp _) | exact congrArg Value.bool (emp _) | (simp [*]; done), by repeat (first | exact Drawn0.refl _ | apply Drawn0.step)⟩
 rw [if_neg c3] at H
 have c3b0 : decide (a1 < 0) = false := decide_eq_false c3
 clear c3
 by_cases c4 : a1 ≥ (l0.length : Int)
 ·rw [if_pos c4] at H
  have c4b0 : decide ((l0.length : Int) ≤ a1) = true := decide_eq_true c4
  clear c4
  simp only [Option.some.injEq, Prod.mk.injEq] at H
  obtain ⟨rfl, rfl⟩ := H
  go_enter Tryd.func44, Tryd.ntmps44
  go_wp2
  go_ret2
  exact ⟨by first | rfl | (simp; done) | exact congrArg Value.bool (nemp _) | exact congrArg Value.bool (emp _) | (simp [*]; done), by repeat (first | exact Drawn0.refl _ | apply Drawn0.step)⟩
 rw [if_neg c4] at H
 have c4b0 : decide ((l0.length : Int) ≤ a1) = false := decide_eq_false c4
 clear c4
 by_cases c5 : 0 ≤ a1
 ·rw [if_pos c5] at H
  have c5b0 : decide (0 ≤ a1) = true := decide_eq_true c5
  clear c5
  by_cases c6 : a1 < (l0.length : Int)
  ·rw [if_pos c6] at H
   have c6b0 : decide (a1 < (l0.length : Int)) = true := decide_eq_true c6
   clear c6
   simp only [Option.some.injEq, Prod.mk.injEq] at H
   obtain ⟨rfl, rfl⟩ := H
   have p142 : 0 ≤ (a1 : Int) := of_decide_eq_true (by first | (with_reducible assumption) | assumption)
   have q142 : a1 < (l0.length : Int) := of_decide_eq_true (by first | (with_reducible assumption) | assumption)
   obtain ⟨ad142, e142, hx142_0⟩ := Kd.at_string HR0.out a1 p142 q142
   cases e142
   replace p142 := eq_true p142
   replace q142 := eq_true q142
   go_enter Tryd.func44, Tryd.ntmps44
   go_wp2
   go_ret2
   exact ⟨by first | rfl | (simp; done) | exact congrArg Value.bool (nemp _) | exact congrArg Value.bool (emp _) | (simp [*]; done), by repeat (first | exact Drawn0.refl _ | apply Drawn0.step)⟩
  rw [if_neg c6] at H
  exact absurd H (by simp)
 rw [if_neg c5] at H
 exact absurd H (by simp)
end Go.Proofs.YtgacmniagmfckaaDoor.Q
