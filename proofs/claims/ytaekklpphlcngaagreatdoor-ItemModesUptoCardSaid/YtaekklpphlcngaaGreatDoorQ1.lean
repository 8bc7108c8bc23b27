-- Written by hookprint.py (wip/) of this session: the kit's print with hand-proved functions beside it. Not trusted: Lean checks it.
import Derived.Test.YtaekklpphlcngaaGreatDoorQ0
namespace Go.Proofs.YtaekklpphlcngaaGreatDoor.Q
open List (setIfInBounds_toArray set_cons_zero set_cons_succ)
open Go.RowKit Go.Lib Go.Proofs.YtaekklpphlcngaaGreatDoorX Go.Proofs.YtaekklpphlcngaaGreatDoorW.PrintWords Go.Proofs.YtaekklpphlcngaaGreatDoorW.PrintLast Go.Proofs.YtaekklpphlcngaaGreatDoorW.PrintMore
set_option linter.unusedVariables false
set_option linter.unusedSimpArgs false
def cardexplay_Texts.l0 : Nat → List ByteArray → Int → Int → Option (Int)
 | 0, _, _, _ => none
 | k + 1, x0, x3, x4 => if x4 < (x0.length : Int) then (if 0 ≤ x4 then (cardexplay_Texts.l0 k x0 (wrap64 ((wrap64 (x3 + 1)) + ((rdOf ByteArray.empty x0 x4).size : Int))) (wrap64 (x4 + 1))) else (none)) else (some x3)
def cardexplay_Texts.f (k : Nat) (l0 : List ByteArray) : Option (Int) := cardexplay_Texts.l0 k l0 0 0
set_option maxHeartbeats 8000000 in
set_option maxRecDepth 100000 in
theorem cardexplay_Texts.calls (k : Nat) (A0 : Option Addr) (c0 : Nat) (l0 : List ByteArray) (r : Int) (w : World) (hr0 : Kd.C Kd.string w A0 l0.length l0) (hc0 : l0.length ≤ c0) (h : cardexplay_Texts.f k l0 = some r) :
  Calls Tryz.prog 20 #[.slice A0 l0.length c0] w fun e w' => e = .returned (.int .i64 r) ∧ Drawn0 w w' := by
 have HR0 := Aside0.mk hr0
 have HC0 := Aside0.mk hc0
 clear hr0 hc0
 have H : (cardexplay_Texts.l0 k l0 0 0) = some r := h
 clear h
 have H' := Aside0.mk H
 clear H
 go_enter Tryz.func20, Tryz.ntmps20
 go_wp2
 go_loopg [3, 4] k (fun kq v3 v4 w' => ∃ (x3_1 : Int) (x4_1 : Int), v3 = .int .i64 x3_1 ∧ v4 = .int .i64 x4_1 ∧ Aside0 (cardexplay_Texts.l0 kq l0 x3_1 x4_1 = some r) ∧ Aside0 (kq ≤ k) ∧ Drawn0 w w')
 case atStart => exact ⟨(0), (0), zz1, zz1, H', ⟨Nat.le_refl _⟩, zz17⟩
 case round =>
  clear H'
  obtain ⟨x3_1, x4_1, rfl, rfl, HA, HK1, ⟨m1, rfl⟩⟩ := hrel
  cases gk with
  | zero => exact absurd HA.out (by simp [cardexplay_Texts.l0])
  | succ k1 =>
   have H := HA.out
   clear HA
   simp only [cardexplay_Texts.l0] at H
   by_cases c2 : x4_1 < (l0.length : Int)
   ·rw [if_pos c2] at H
    have c2b0 := decide_eq_true c2
    clear c2
    by_cases c3 : 0 ≤ x4_1
    ·rw [if_pos c3] at H
     have c3b0 := decide_eq_true c3
     clear c3
     have H' := Aside0.mk H
     clear H
     have p101 : 0 ≤ (x4_1 : Int) := of_decide_eq_true zz6
     have q101 : x4_1 < (l0.length : Int) := of_decide_eq_true zz6
     obtain ⟨ad101, e101, hx101_0⟩ := Kd.at_string HR0.out x4_1 p101 q101
     cases e101
     replace p101 := eq_true p101
     replace q101 := eq_true q101
     go_wp2
     go_roundg k1
     case measure => have := HK1.out; omega
     case rel => exact ⟨(wrap64 ((wrap64 (x3_1 + 1)) + ((rdOf ByteArray.empty l0 x4_1).size : Int))), (wrap64 (x4_1 + 1)), zz1, zz1, H', ⟨zz58⟩, zz17⟩
    rw [if_neg c3] at H
    exact absurd H (by simp)
   rw [if_neg c2] at H
   have c2b0 := decide_eq_false c2
   clear c2
   obtain rfl := Option.some.inj H
   go_wp2
   go_ret
   exact ⟨zz1, zz17⟩
mutual
def cardexplay_Small.l0 : Nat → Int → Int → List (S38) → Option (Bool)
 | 0, _, _, _ => none
 | k + 1, x3, x4, x103000 => if x4 < (x103000.length : Int) then (if 0 ≤ x4 then (cardexplay_Small.l1 k (wrap64 ((wrap64 (x3 + 1)) + (((rd_T38 x103000 x4).f0).size : Int))) x4 0 x103000) else (none)) else (some (decide (x3 ≤ 20000)))
def cardexplay_Small.l1 : Nat → Int → Int → Int → List (S38) → Option (Bool)
 | 0, _, _, _, _ => none
 | k + 1, x3, x4, x5, x103000 => if 0 ≤ x4 then (if x4 < (x103000.length : Int) then (if x5 < (((rd_T38 x103000 x4).f1).length : Int) then (if 0 ≤ x5 then ((cardexplay_Texts.f k ((rd_T35 ((rd_T38 x103000 x4).f1) x5).f3)).bind fun t108 => (cardexplay_Small.l2 k (wrap64 ((wrap64 ((wrap64 ((wrap64 (x3 + 5)) + (((rd_T35 ((rd_T38 x103000 x4).f1) x5).f0).size : Int))) + (((rd_T35 ((rd_T38 x103000 x4).f1) x5).f1).size : Int))) + t108)) x4 x5 0 x103000 ((rd_T35 ((rd_T38 x103000 x4).f1) x5).f0) ((rd_T35 ((rd_T38 x103000 x4).f1) x5).f1) ((rd_T35 ((rd_T38 x103000 x4).f1) x5).f2) ((rd_T35 ((rd_T38 x103000 x4).f1) x5).f3))) else (none)) else (cardexplay_Small.l0 k x3 (wrap64 (x4 + 1)) x103000)) else (none)) else (none)
def cardexplay_Small.l2 : Nat → Int → Int → Int → Int → List (S38) → ByteArray → ByteArray → List (S24) → List ByteArray → Option (Bool)
 | 0, _, _, _, _, _, _, _, _, _ => none
 | k + 1, x3, x4, x5, x7, x103000, x108000, x108001, x108002, x108003 => if x7 < (x108002.length : Int) then (if 0 ≤ x7 then ((cardexplay_Texts.f k ((rd_T24 x108002 x7).f2)).bind fun t112 => (cardexplay_Small.l2 k (wrap64 ((wrap64 ((wrap64 ((wrap64 (x3 + 5)) + (((rd_T24 x108002 x7).f0).size : Int))) + (((rd_T24 x108002 x7).f1).size : Int))) + t112)) x4 x5 (wrap64 (x7 + 1)) x103000 x108000 x108001 x108002 x108003)) else (none)) else (cardexplay_Small.l1 k x3 x4 (wrap64 (x5 + 1)) x103000)
end
def cardexplay_Small.f (k : Nat) (l0_0 : List (S38)) : Option (Bool) := cardexplay_Small.l0 k 0 0 l0_0
set_option maxHeartbeats 8000000 in
set_option maxRecDepth 100000 in
theorem cardexplay_Small.calls (k : Nat) (A0_0 : Option Addr) (c0_0 : Nat) (l0_0 : List (S38)) (r : Bool) (w : World) (hr0_0 : Kd.C k38 w A0_0 l0_0.length l0_0) (hc0_0 : l0_0.length ≤ c0_0) (h : cardexplay_Small.f k l0_0 = some r) :
  Calls Tryz.prog 9 #[.agg #[.slice A0_0 l0_0.length c0_0]] w fun e w' => e = .returned (.bool r) ∧ Below w.heap.size w w' := by
 have hu41 := Tryz.underlying41
 have hu35 := Tryz.underlying35
 have HR0_0 := Aside0.mk hr0_0
 have HC0_0 := Aside0.mk hc0_0
 clear hr0_0 hc0_0
 have HB := Aside0.mk (Below.refl w.heap.size w)
 have H : (cardexplay_Small.l0 k 0 0 l0_0) = some r := h
 clear h
 have H' := Aside0.mk H
 clear H
 go_enter Tryz.func9, Tryz.ntmps9
 go_wp2_with (first | ((with_reducible refine gd 1 ?_); refine bz #[.slice A0_0 l0_0.length c0_0] 41 ?_; intro gb102 hg w2 hbox hb; have n_ := as4 (below_step zz0 hb) hbox (gs w hg zz0) (gs w hg zz0); clear HB; obtain ⟨HB, BK102, GW102, GE102⟩ := n_; clear hb hbox hg))
 repeat (go_quiet (first | ((with_reducible refine gd 1 ?_); refine bz #[.slice A0_0 l0_0.length c0_0] 41 ?_; intro gb102 hg w2 hbox hb; have n_ := as4 (below_step zz0 hb) hbox (gs w hg zz0) (gs w hg zz0); clear HB; obtain ⟨HB, BK102, GW102, GE102⟩ := n_; clear hb hbox hg)); try go_wp2_with (first | ((with_reducible refine gd 1 ?_); refine bz #[.slice A0_0 l0_0.length c0_0] 41 ?_; intro gb102 hg w2 hbox hb; have n_ := as4 (below_step zz0 hb) hbox (gs w hg zz0) (gs w hg zz0); clear HB; obtain ⟨HB, BK102, GW102, GE102⟩ := n_; clear hb hbox hg)))
 go_loopg [3, 4] k (fun kq v3 v4 w' => ∃ (x3_1 : Int) (x4_1 : Int), v3 = .int .i64 x3_1 ∧ v4 = .int .i64 x4_1 ∧ Aside0 (cardexplay_Small.l0 kq x3_1 x4_1 l0_0 = some r) ∧ Aside0 (kq ≤ k) ∧ Aside0 (w'.heap[gb102]? = some (.cells #[(.slice A0_0 l0_0.length c0_0)] 41 (0, 0))) ∧ Aside0 (Below w.heap.size w w'))
 case atStart => exact ⟨(0), (0), zz1, zz1, H', ⟨Nat.le_refl _⟩, ⟨zz30⟩, ⟨zz26⟩⟩
 case round =>
  clear H'
  try clear p2
  obtain ⟨x3_1, x4_1, rfl, rfl, HA, HK1, BK102, HB⟩ := hrel
  cases gk with
  | zero => exact absurd HA.out (by simp [cardexplay_Small.l0])
  | succ k1 =>
   have H := HA.out
   clear HA
   simp only [cardexplay_Small.l0] at H
   by_cases c3 : x4_1 < (l0_0.length : Int)
   ·rw [if_pos c3] at H
    have c3b0 := decide_eq_true c3
    clear c3
    by_cases c4 : 0 ≤ x4_1
    ·rw [if_pos c4] at H
     have c4b0 := decide_eq_true c4
     clear c4
     have H' := Aside0.mk H
     clear H
     have hcz5_0 : wr.cell? ⟨gb102, 0, none⟩ = some (.slice A0_0 l0_0.length c0_0) := (blk_cell BK102.out 0).trans rfl
     have hfz5_0 := blk_frozen BK102.out 0
     have p103 : 0 ≤ (x4_1 : Int) := of_decide_eq_true zz6
     have q103 : x4_1 < (l0_0.length : Int) := of_decide_eq_true zz6
     obtain ⟨ad103, A103_1, c103_1, e103, hx103_0, hx103_1, hl103_1, hi103_1⟩ := at_T38 HR0_0.out x4_1 p103 q103
     cases e103
     replace hx103_0 := hereB HB hx103_0
     replace hx103_1 := hereB HB hx103_1
     have HR103_1 := Aside0.mk hi103_1
     have HC103_1 := Aside0.mk hl103_1
     clear hi103_1 hl103_1
     replace p103 := eq_true p103
     replace q103 := eq_true q103
     go_wp2
     repeat (go_quiet (fail); try go_wp2)
     go_loopg [3, 5] k1 (fun kq v3 v5 w' => ∃ (x3_2 : Int) (x5_2 : Int), v3 = .int .i64 x3_2 ∧ v5 = .int .i64 x5_2 ∧ Aside0 (cardexplay_Small.l1 kq x3_2 x4_1 x5_2 l0_0 = some r) ∧ Aside0 (kq ≤ k1) ∧ Aside0 (w'.heap[gb102]? = some (.cells #[(.slice (some ad103) l0_0.length c0_0)] 41 (0, 0))) ∧ Aside0 (Below w.heap.size w w'))
     case atStart => exact ⟨(wrap64 ((wrap64 (x3_1 + 1)) + (((rd_T38 l0_0 x4_1).f0).size : Int))), (0), zz1, zz1, H', ⟨Nat.le_refl _⟩, ⟨zz30⟩, ⟨zz26⟩⟩
     case round =>
      clear H'
      try clear c1
      try clear p1
      try clear q1
      try clear hx1
      try clear p2
      try clear c3
      try clear c3b0
      try clear c4
      try clear c4b0
      try clear hcz5_0
      try clear hfz5_0
      try clear hx103_0
      try clear hx103_1
      try clear p103
      try clear p2
      try clear q103
      obtain ⟨x3_2, x5_2, rfl, rfl, HA, HK2, BK102, HB⟩ := hrel
      cases gk with
      | zero => exact absurd HA.out (by simp [cardexplay_Small.l1])
      | succ k2 =>
       have H := HA.out
       clear HA
       simp only [cardexplay_Small.l1] at H
       by_cases c6 : 0 ≤ x4_1
       ·rw [if_pos c6] at H
        have c6b0 := decide_eq_true c6
        clear c6
        by_cases c7 : x4_1 < (l0_0.length : Int)
        ·rw [if_pos c7] at H
         have c7b0 := decide_eq_true c7
         clear c7
         by_cases c8 : x5_2 < (((rd_T38 l0_0 x4_1).f1).length : Int)
         ·rw [if_pos c8] at H
          have c8b0 := decide_eq_true c8
          clear c8
          by_cases c9 : 0 ≤ x5_2
          ·rw [if_pos c9] at H
           have c9b0 := decide_eq_true c9
           clear c9
           replace H := Option.bind_eq_some_iff.mp H
           obtain ⟨t108, A100, H⟩ := H
           try dsimp only at H
           have A10 := Aside0.mk A100
           clear A100
           have H' := Aside0.mk H
           clear H
           have hcz11_0 : wr.cell? ⟨gb102, 0, none⟩ = some (.slice (some ad103) l0_0.length c0_0) := (blk_cell BK102.out 0).trans rfl
           have hfz11_0 := blk_frozen BK102.out 0
           have p104 : 0 ≤ (x4_1 : Int) := of_decide_eq_true zz6
           have q104 : x4_1 < (l0_0.length : Int) := of_decide_eq_true zz6
           obtain ⟨ad104, A104_1, c104_1, e104, hx104_0, hx104_1, hl104_1, hi104_1⟩ := at_T38 HR0_0.out x4_1 p104 q104
           obtain rfl : ad103 = ad104 := (by injection e104)
           replace hx104_0 := hereB HB hx104_0
           replace hx104_1 := hereB HB hx104_1
           have HR104_1 := Aside0.mk hi104_1
           have HC104_1 := Aside0.mk hl104_1
           clear hi104_1 hl104_1
           replace p104 := eq_true p104
           replace q104 := eq_true q104
           have p105 : 0 ≤ (x4_1 : Int) := of_decide_eq_true zz6
           have q105 : x4_1 < (l0_0.length : Int) := of_decide_eq_true zz6
           obtain ⟨ad105, A105_1, c105_1, e105, hx105_0, hx105_1, hl105_1, hi105_1⟩ := at_T38 HR0_0.out x4_1 p105 q105
           obtain rfl : ad103 = ad105 := (by injection e105)
           replace hx105_0 := hereB HB hx105_0
           replace hx105_1 := hereB HB hx105_1
           have HR105_1 := Aside0.mk hi105_1
           have HC105_1 := Aside0.mk hl105_1
           clear hi105_1 hl105_1
           replace p105 := eq_true p105
           replace q105 := eq_true q105
           have ea_ := Option.some.inj (hx104_1.symm.trans hx105_1)
           injection ea_ with ea_ en_ ec_
           subst ea_
           subst ec_
           clear en_
           have p106 : 0 ≤ (x5_2 : Int) := of_decide_eq_true zz6
           have q106 : x5_2 < (((rd_T38 l0_0 x4_1).f1).length : Int) := of_decide_eq_true zz6
           obtain ⟨ad106, A106_2, c106_2, A106_3, c106_3, e106, hx106_0, hx106_1, hx106_2, hx106_3, hl106_2, hi106_2, hl106_3, hi106_3⟩ := at_T35 HR105_1.out x5_2 p106 q106
           cases e106
           replace hx106_0 := hereB HB hx106_0
           replace hx106_1 := hereB HB hx106_1
           replace hx106_2 := hereB HB hx106_2
           replace hx106_3 := hereB HB hx106_3
           have HR106_2 := Aside0.mk hi106_2
           have HC106_2 := Aside0.mk hl106_2
           clear hi106_2 hl106_2
           have HR106_3 := Aside0.mk hi106_3
           have HC106_3 := Aside0.mk hl106_3
           clear hi106_3 hl106_3
           replace p106 := eq_true p106
           replace q106 := eq_true q106
           go_wp2_with (first | ((with_reducible refine gd 6 ?_); refine bz #[.string (⟨#[]⟩ : ByteArray), .string (⟨#[]⟩ : ByteArray), .slice none 0 0, .slice none 0 0] 35 ?_; intro gb107 hg w12 hbox hb; have n_ := as7 (blk_below zz30 hb) (below_step zz26 hb) hbox (gs w hg zz26) (gs w hg zz26) (nl hg zz30) (ng hg zz30); clear BK102 HB; obtain ⟨BK102, HB, BK107, GW107, GE107, NB102_107, NB107_102⟩ := n_; clear hb hbox hg; have hnb13 := NB107_102.out; have hnc13 := NB102_107.out; obtain ⟨hcz14_0, hcz14_1, hcz14_2, hcz14_3⟩ := cz4 BK107.out; obtain ⟨hfz14_0, hfz14_1, hfz14_2, hfz14_3⟩ := fz4 BK107.out) | (go_at_call 20; (with_reducible refine (cardexplay_Texts.calls k2 _ _ ((rd_T35 ((rd_T38 l0_0 x4_1).f1) x5_2).f3) t108 _ ?side1 ?side2 A10.out).mono ?_); (case side1 => exact (by exact Kd.C_below HR106_3.out zz44)); (case side2 => exact HC106_3.out); rintro e w' ⟨rfl, ⟨nd, rfl⟩⟩; (try first | exact ⟨rfl, _, World.drewN_drewN _ _ _⟩ | exact ⟨rfl, _, Eq.trans (World.drewN_drewN _ _ _) (congrArg (World.drewN _) (Nat.add_assoc _ _ _))⟩)))
           repeat (go_quiet (first | ((with_reducible refine gd 6 ?_); refine bz #[.string (⟨#[]⟩ : ByteArray), .string (⟨#[]⟩ : ByteArray), .slice none 0 0, .slice none 0 0] 35 ?_; intro gb107 hg w12 hbox hb; have n_ := as7 (blk_below zz30 hb) (below_step zz26 hb) hbox (gs w hg zz26) (gs w hg zz26) (nl hg zz30) (ng hg zz30); clear BK102 HB; obtain ⟨BK102, HB, BK107, GW107, GE107, NB102_107, NB107_102⟩ := n_; clear hb hbox hg; have hnb13 := NB107_102.out; have hnc13 := NB102_107.out; obtain ⟨hcz14_0, hcz14_1, hcz14_2, hcz14_3⟩ := cz4 BK107.out; obtain ⟨hfz14_0, hfz14_1, hfz14_2, hfz14_3⟩ := fz4 BK107.out) | (go_at_call 20; (with_reducible refine (cardexplay_Texts.calls k2 _ _ ((rd_T35 ((rd_T38 l0_0 x4_1).f1) x5_2).f3) t108 _ ?side1 ?side2 A10.out).mono ?_); (case side1 => exact (by exact Kd.C_below HR106_3.out zz44)); (case side2 => exact HC106_3.out); rintro e w' ⟨rfl, ⟨nd, rfl⟩⟩; (try first | exact ⟨rfl, _, World.drewN_drewN _ _ _⟩ | exact ⟨rfl, _, Eq.trans (World.drewN_drewN _ _ _) (congrArg (World.drewN _) (Nat.add_assoc _ _ _))⟩))); try go_wp2_with (first | ((with_reducible refine gd 6 ?_); refine bz #[.string (⟨#[]⟩ : ByteArray), .string (⟨#[]⟩ : ByteArray), .slice none 0 0, .slice none 0 0] 35 ?_; intro gb107 hg w12 hbox hb; have n_ := as7 (blk_below zz30 hb) (below_step zz26 hb) hbox (gs w hg zz26) (gs w hg zz26) (nl hg zz30) (ng hg zz30); clear BK102 HB; obtain ⟨BK102, HB, BK107, GW107, GE107, NB102_107, NB107_102⟩ := n_; clear hb hbox hg; have hnb13 := NB107_102.out; have hnc13 := NB102_107.out; obtain ⟨hcz14_0, hcz14_1, hcz14_2, hcz14_3⟩ := cz4 BK107.out; obtain ⟨hfz14_0, hfz14_1, hfz14_2, hfz14_3⟩ := fz4 BK107.out) | (go_at_call 20; (with_reducible refine (cardexplay_Texts.calls k2 _ _ ((rd_T35 ((rd_T38 l0_0 x4_1).f1) x5_2).f3) t108 _ ?side1 ?side2 A10.out).mono ?_); (case side1 => exact (by exact Kd.C_below HR106_3.out zz44)); (case side2 => exact HC106_3.out); rintro e w' ⟨rfl, ⟨nd, rfl⟩⟩; (try first | exact ⟨rfl, _, World.drewN_drewN _ _ _⟩ | exact ⟨rfl, _, Eq.trans (World.drewN_drewN _ _ _) (congrArg (World.drewN _) (Nat.add_assoc _ _ _))⟩))))
           go_loopg [3, 7] k2 (fun kq v3 v7 w' => ∃ (x3_3 : Int) (x7_3 : Int), v3 = .int .i64 x3_3 ∧ v7 = .int .i64 x7_3 ∧ Aside0 (cardexplay_Small.l2 kq x3_3 x4_1 x5_2 x7_3 l0_0 ((rd_T35 ((rd_T38 l0_0 x4_1).f1) x5_2).f0) ((rd_T35 ((rd_T38 l0_0 x4_1).f1) x5_2).f1) ((rd_T35 ((rd_T38 l0_0 x4_1).f1) x5_2).f2) ((rd_T35 ((rd_T38 l0_0 x4_1).f1) x5_2).f3) = some r) ∧ Aside0 (kq ≤ k2) ∧ Aside0 (w'.heap[gb102]? = some (.cells #[(.slice (some ad103) l0_0.length c0_0)] 41 (0, 0))) ∧ Aside0 (w'.heap[gb107]? = some (.cells #[.string ((rd_T35 ((rd_T38 l0_0 x4_1).f1) x5_2).f0), .string ((rd_T35 ((rd_T38 l0_0 x4_1).f1) x5_2).f1), (.slice A106_2 ((rd_T35 ((rd_T38 l0_0 x4_1).f1) x5_2).f2).length c106_2), (.slice A106_3 ((rd_T35 ((rd_T38 l0_0 x4_1).f1) x5_2).f3).length c106_3)] 35 (0, 0))) ∧ Aside0 (Below w.heap.size w w'))
           case atStart => exact ⟨(wrap64 ((wrap64 ((wrap64 ((wrap64 (x3_2 + 5)) + (((rd_T35 ((rd_T38 l0_0 x4_1).f1) x5_2).f0).size : Int))) + (((rd_T35 ((rd_T38 l0_0 x4_1).f1) x5_2).f1).size : Int))) + t108)), (0), zz1, zz1, H', ⟨Nat.le_refl _⟩, ⟨by (with_reducible repeat (first | refine blk_drewN ?_ _ | refine blk_drew ?_ | refine blk_alloc ?_ _)); refine blk_far ?_ NB102_107.out _; (with_reducible repeat (first | refine blk_drewN ?_ _ | refine blk_drew ?_ | refine blk_alloc ?_ _)); refine blk_far ?_ NB102_107.out _; (with_reducible repeat (first | refine blk_drewN ?_ _ | refine blk_drew ?_ | refine blk_alloc ?_ _)); refine blk_far ?_ NB102_107.out _; (with_reducible repeat (first | refine blk_drewN ?_ _ | refine blk_drew ?_ | refine blk_alloc ?_ _)); refine blk_far ?_ NB102_107.out _; (with_reducible repeat (first | refine blk_drewN ?_ _ | refine blk_drew ?_ | refine blk_alloc ?_ _)); exact BK102.out⟩, ⟨by (with_reducible repeat (first | refine blk_drewN ?_ _ | refine blk_drew ?_ | refine blk_alloc ?_ _)); refine blk_put (cs := #[.string ((rd_T35 ((rd_T38 l0_0 x4_1).f1) x5_2).f0), .string ((rd_T35 ((rd_T38 l0_0 x4_1).f1) x5_2).f1), .slice A106_2 ((rd_T35 ((rd_T38 l0_0 x4_1).f1) x5_2).f2).length c106_2, .slice none 0 0]) ?_ 3 _ rfl; (with_reducible repeat (first | refine blk_drewN ?_ _ | refine blk_drew ?_ | refine blk_alloc ?_ _)); refine blk_put (cs := #[.string ((rd_T35 ((rd_T38 l0_0 x4_1).f1) x5_2).f0), .string ((rd_T35 ((rd_T38 l0_0 x4_1).f1) x5_2).f1), .slice none 0 0, .slice none 0 0]) ?_ 2 _ rfl; (with_reducible repeat (first | refine blk_drewN ?_ _ | refine blk_drew ?_ | refine blk_alloc ?_ _)); refine blk_put (cs := #[.string ((rd_T35 ((rd_T38 l0_0 x4_1).f1) x5_2).f0), .string (⟨#[]⟩ : ByteArray), .slice none 0 0, .slice none 0 0]) ?_ 1 _ rfl; (with_reducible repeat (first | refine blk_drewN ?_ _ | refine blk_drew ?_ | refine blk_alloc ?_ _)); refine blk_put (cs := #[.string (⟨#[]⟩ : ByteArray), .string (⟨#[]⟩ : ByteArray), .slice none 0 0, .slice none 0 0]) ?_ 0 _ rfl; (with_reducible repeat (first | refine blk_drewN ?_ _ | refine blk_drew ?_ | refine blk_alloc ?_ _)); exact BK107.out⟩, ⟨zz44⟩⟩
           case round =>
            clear H'
            try clear c1
            try clear p1
            try clear q1
            try clear hx1
            try clear p2
            try clear c3
            try clear c3b0
            try clear c4
            try clear c4b0
            try clear c6
            try clear c6b0
            try clear p6
            try clear c7
            try clear c7b0
            try clear c8
            try clear c8b0
            try clear c9
            try clear c9b0
            try clear c10
            try clear p10
            try clear q10
            try clear hx10
            try clear c13
            try clear hcz11_0
            try clear hcz14_0
            try clear hcz14_1
            try clear hcz14_2
            try clear hcz14_3
            try clear hcz5_0
            try clear hfz11_0
            try clear hfz14_0
            try clear hfz14_1
            try clear hfz14_2
            try clear hfz14_3
            try clear hfz5_0
            try clear hx103_0
            try clear hx103_1
            try clear hx104_0
            try clear hx104_1
            try clear hx105_0
            try clear hx105_1
            try clear hx106_0
            try clear hx106_1
            try clear hx106_2
            try clear hx106_3
            try clear p1
            try clear p103
            try clear p104
            try clear p105
            try clear p106
            try clear p2
            try clear q1
            try clear q103
            try clear q104
            try clear q105
            try clear q106
            obtain ⟨x3_3, x7_3, rfl, rfl, HA, HK3, BK102, BK107, HB⟩ := hrel
            cases gk with
            | zero => exact absurd HA.out (by simp [cardexplay_Small.l2])
            | succ k3 =>
             have H := HA.out
             clear HA
             simp only [cardexplay_Small.l2] at H
             by_cases c15 : x7_3 < (((rd_T35 ((rd_T38 l0_0 x4_1).f1) x5_2).f2).length : Int)
             ·rw [if_pos c15] at H
              have c15b0 := decide_eq_true c15
              clear c15
              by_cases c16 : 0 ≤ x7_3
              ·rw [if_pos c16] at H
               have c16b0 := decide_eq_true c16
               clear c16
               replace H := Option.bind_eq_some_iff.mp H
               obtain ⟨t112, A170, H⟩ := H
               try dsimp only at H
               have A17 := Aside0.mk A170
               clear A170
               have H' := Aside0.mk H
               clear H
               have hnb18 := NB107_102.out
               have hnc18 := NB102_107.out
               obtain ⟨hcz19_0, hcz19_1, hcz19_2, hcz19_3⟩ := cz4 BK107.out
               obtain ⟨hfz19_0, hfz19_1, hfz19_2, hfz19_3⟩ := fz4 BK107.out
               have p109 : 0 ≤ (x7_3 : Int) := of_decide_eq_true zz6
               have q109 : x7_3 < (((rd_T35 ((rd_T38 l0_0 x4_1).f1) x5_2).f2).length : Int) := of_decide_eq_true zz6
               obtain ⟨ad109, A109_2, c109_2, e109, hx109_0, hx109_1, hx109_2, hx109_3, hx109_4, hx109_5, hl109_2, hi109_2⟩ := at_T24 HR106_2.out x7_3 p109 q109
               cases e109
               replace hx109_0 := hereB HB hx109_0
               replace hx109_1 := hereB HB hx109_1
               replace hx109_2 := hereB HB hx109_2
               replace hx109_3 := hereB HB hx109_3
               replace hx109_4 := hereB HB hx109_4
               replace hx109_5 := hereB HB hx109_5
               have HR109_2 := Aside0.mk hi109_2
               have HC109_2 := Aside0.mk hl109_2
               clear hi109_2 hl109_2
               replace p109 := eq_true p109
               replace q109 := eq_true q109
               have p110 : 0 ≤ (x7_3 : Int) := of_decide_eq_true zz6
               have q110 : x7_3 < (((rd_T35 ((rd_T38 l0_0 x4_1).f1) x5_2).f2).length : Int) := of_decide_eq_true zz6
               obtain ⟨ad110, A110_2, c110_2, e110, hx110_0, hx110_1, hx110_2, hx110_3, hx110_4, hx110_5, hl110_2, hi110_2⟩ := at_T24 HR106_2.out x7_3 p110 q110
               obtain rfl : ad109 = ad110 := (by injection e110)
               replace hx110_0 := hereB HB hx110_0
               replace hx110_1 := hereB HB hx110_1
               replace hx110_2 := hereB HB hx110_2
               replace hx110_3 := hereB HB hx110_3
               replace hx110_4 := hereB HB hx110_4
               replace hx110_5 := hereB HB hx110_5
               have HR110_2 := Aside0.mk hi110_2
               have HC110_2 := Aside0.mk hl110_2
               clear hi110_2 hl110_2
               replace p110 := eq_true p110
               replace q110 := eq_true q110
               have ea_ := Option.some.inj (hx109_2.symm.trans hx110_2)
               injection ea_ with ea_ en_ ec_
               subst ea_
               subst ec_
               clear en_
               have p111 : 0 ≤ (x7_3 : Int) := of_decide_eq_true zz6
               have q111 : x7_3 < (((rd_T35 ((rd_T38 l0_0 x4_1).f1) x5_2).f2).length : Int) := of_decide_eq_true zz6
               obtain ⟨ad111, A111_2, c111_2, e111, hx111_0, hx111_1, hx111_2, hx111_3, hx111_4, hx111_5, hl111_2, hi111_2⟩ := at_T24 HR106_2.out x7_3 p111 q111
               obtain rfl : ad109 = ad111 := (by injection e111)
               replace hx111_0 := hereB HB hx111_0
               replace hx111_1 := hereB HB hx111_1
               replace hx111_2 := hereB HB hx111_2
               replace hx111_3 := hereB HB hx111_3
               replace hx111_4 := hereB HB hx111_4
               replace hx111_5 := hereB HB hx111_5
               have HR111_2 := Aside0.mk hi111_2
               have HC111_2 := Aside0.mk hl111_2
               clear hi111_2 hl111_2
               replace p111 := eq_true p111
               replace q111 := eq_true q111
               have ea_ := Option.some.inj (hx109_2.symm.trans hx111_2)
               injection ea_ with ea_ en_ ec_
               subst ea_
               subst ec_
               clear en_
               go_wp2_with (first | (go_at_call 20; (with_reducible refine (cardexplay_Texts.calls k3 _ _ ((rd_T24 ((rd_T35 ((rd_T38 l0_0 x4_1).f1) x5_2).f2) x7_3).f2) t112 _ ?side1 ?side2 A17.out).mono ?_); (case side1 => exact zz66); (case side2 => exact HC111_2.out); rintro e w' ⟨rfl, ⟨nd, rfl⟩⟩; (try first | exact ⟨rfl, _, World.drewN_drewN _ _ _⟩ | exact ⟨rfl, _, Eq.trans (World.drewN_drewN _ _ _) (congrArg (World.drewN _) (Nat.add_assoc _ _ _))⟩)))
               repeat (go_quiet (first | (go_at_call 20; (with_reducible refine (cardexplay_Texts.calls k3 _ _ ((rd_T24 ((rd_T35 ((rd_T38 l0_0 x4_1).f1) x5_2).f2) x7_3).f2) t112 _ ?side1 ?side2 A17.out).mono ?_); (case side1 => exact zz66); (case side2 => exact HC111_2.out); rintro e w' ⟨rfl, ⟨nd, rfl⟩⟩; (try first | exact ⟨rfl, _, World.drewN_drewN _ _ _⟩ | exact ⟨rfl, _, Eq.trans (World.drewN_drewN _ _ _) (congrArg (World.drewN _) (Nat.add_assoc _ _ _))⟩))); try go_wp2_with (first | (go_at_call 20; (with_reducible refine (cardexplay_Texts.calls k3 _ _ ((rd_T24 ((rd_T35 ((rd_T38 l0_0 x4_1).f1) x5_2).f2) x7_3).f2) t112 _ ?side1 ?side2 A17.out).mono ?_); (case side1 => exact zz66); (case side2 => exact HC111_2.out); rintro e w' ⟨rfl, ⟨nd, rfl⟩⟩; (try first | exact ⟨rfl, _, World.drewN_drewN _ _ _⟩ | exact ⟨rfl, _, Eq.trans (World.drewN_drewN _ _ _) (congrArg (World.drewN _) (Nat.add_assoc _ _ _))⟩))))
               go_roundg k3
               case measure => have := HK1.out; have := HK2.out; have := HK3.out; omega
               case rel => exact ⟨(wrap64 ((wrap64 ((wrap64 ((wrap64 (x3_3 + 5)) + (((rd_T24 ((rd_T35 ((rd_T38 l0_0 x4_1).f1) x5_2).f2) x7_3).f0).size : Int))) + (((rd_T24 ((rd_T35 ((rd_T38 l0_0 x4_1).f1) x5_2).f2) x7_3).f1).size : Int))) + t112)), (wrap64 (x7_3 + 1)), zz1, zz1, H', ⟨by have := HK1.out; have := HK2.out; have := HK3.out; omega⟩, ⟨zz30⟩, ⟨by (with_reducible repeat (first | refine blk_drewN ?_ _ | refine blk_drew ?_ | refine blk_alloc ?_ _)); exact BK107.out⟩, ⟨zz44⟩⟩
              rw [if_neg c16] at H
              exact absurd H (by simp)
             rw [if_neg c15] at H
             have c15b0 := decide_eq_false c15
             clear c15
             have H' := Aside0.mk H
             clear H
             have hnb20 := NB107_102.out
             have hnc20 := NB102_107.out
             obtain ⟨hcz21_0, hcz21_1, hcz21_2, hcz21_3⟩ := cz4 BK107.out
             obtain ⟨hfz21_0, hfz21_1, hfz21_2, hfz21_3⟩ := fz4 BK107.out
             go_wp2
             repeat (go_quiet (fail); try go_wp2)
             go_roundg k3
             case measure => have := HK1.out; have := HK2.out; have := HK3.out; omega
             case rel => exact ⟨(x3_3), (wrap64 (x5_2 + 1)), zz1, zz1, H', ⟨by have := HK1.out; have := HK2.out; have := HK3.out; omega⟩, ⟨zz30⟩, ⟨zz44⟩⟩
          rw [if_neg c9] at H
          exact absurd H (by simp)
         rw [if_neg c8] at H
         have c8b0 := decide_eq_false c8
         clear c8
         have H' := Aside0.mk H
         clear H
         have hcz22_0 : wr.cell? ⟨gb102, 0, none⟩ = some (.slice (some ad103) l0_0.length c0_0) := (blk_cell BK102.out 0).trans rfl
         have hfz22_0 := blk_frozen BK102.out 0
         have p104 : 0 ≤ (x4_1 : Int) := of_decide_eq_true zz6
         have q104 : x4_1 < (l0_0.length : Int) := of_decide_eq_true zz6
         obtain ⟨ad104, A104_1, c104_1, e104, hx104_0, hx104_1, hl104_1, hi104_1⟩ := at_T38 HR0_0.out x4_1 p104 q104
         obtain rfl : ad103 = ad104 := (by injection e104)
         replace hx104_0 := hereB HB hx104_0
         replace hx104_1 := hereB HB hx104_1
         have HR104_1 := Aside0.mk hi104_1
         have HC104_1 := Aside0.mk hl104_1
         clear hi104_1 hl104_1
         replace p104 := eq_true p104
         replace q104 := eq_true q104
         go_wp2
         repeat (go_quiet (fail); try go_wp2)
         go_roundg k2
         case measure => have := HK1.out; have := HK2.out; omega
         case rel => exact ⟨(x3_2), (wrap64 (x4_1 + 1)), zz1, zz1, H', ⟨by have := HK1.out; have := HK2.out; omega⟩, ⟨zz30⟩, ⟨zz26⟩⟩
        rw [if_neg c7] at H
        exact absurd H (by simp)
       rw [if_neg c6] at H
       exact absurd H (by simp)
    rw [if_neg c4] at H
    exact absurd H (by simp)
   rw [if_neg c3] at H
   have c3b0 := decide_eq_false c3
   clear c3
   obtain rfl := Option.some.inj H
   have hcz23_0 : wr.cell? ⟨gb102, 0, none⟩ = some (.slice A0_0 l0_0.length c0_0) := (blk_cell BK102.out 0).trans rfl
   have hfz23_0 := blk_frozen BK102.out 0
   go_wp2
   repeat (go_quiet (fail); try go_wp2)
   go_ret
   exact ⟨zz4, zz26⟩
def cardexplay_SmallItems.f (k : Nat) (l0 : List (S24)) : Option (Bool) := if (l0.length : Int) ≤ 150 then ((cardexplay_Small.f k (([(⟨(⟨#[]⟩ : ByteArray), (([(⟨(⟨#[]⟩ : ByteArray), (⟨#[]⟩ : ByteArray), l0, ([] : List ByteArray)⟩ : S35)] : List (S35)))⟩ : S38)] : List (S38)))).bind fun t119 => (some t119)) else (some false)
set_option maxRecDepth 100000 in
theorem lf0 {P : Prop} (h : P := by
 go_enter Tryz.func5, Tryz.ntmps5
 go_wp2_with (first | ((with_reducible refine gate_dst (N := 9) rfl ?_); (try (refine gate_guard (by rfl) ?_; dsimp only)); refine Kd.N_lit k35 _ 35 ?hg (N' := 9) ?hd (xs := ([(⟨(⟨#[]⟩ : ByteArray), (⟨#[]⟩ : ByteArray), l0, ([] : List ByteArray)⟩ : S35)] : List (S35))) (inner := [.string (⟨#[]⟩ : ByteArray), .string (⟨#[]⟩ : ByteArray), .slice A0 l0.length c0, .slice none 0 0]) (ok := (fun k_ => (P0_ k_ ∨ w.heap.size ≤ k_))) (okp := (fun k_ => (P0_ k_ ∨ w.heap.size ≤ k_))) ?hr ?hp (fun _ hk => hk) ((show ∀ k_, w.heap.size ≤ k_ → (fun k_ => (P0_ k_ ∨ w.heap.size ≤ k_)) k_ from fun k_ hk => (.inr (Nat.le_trans (below_size zz0) hk))) _ (Nat.le_refl _)) (Below.refl _ _) (Nat.le_refl _) (by simp) ?_; (case hd => rfl); (case hg => rfl); (case hr => exact zz29); (case hp => exact (Reps.c4 (show Kd.FK k35 _ _ (⟨(⟨#[]⟩ : ByteArray), (⟨#[]⟩ : ByteArray), l0, ([] : List ByteArray)⟩ : S35) [.string (⟨#[]⟩ : ByteArray), .string (⟨#[]⟩ : ByteArray), .slice A0 l0.length c0, .slice none 0 0] from (k35_mkF _ _ (⟨(⟨#[]⟩ : ByteArray), (⟨#[]⟩ : ByteArray), l0, ([] : List ByteArray)⟩ : S35) (Kd.V_reads' (Kd.V_mono (ok' := (fun k_ => (P0_ k_ ∨ w.heap.size ≤ k_))) (HO0.out) (fun k_ hk => hk))).2.1 (Kd.V_F (Kd.V_mono (ok' := (fun k_ => (P0_ k_ ∨ w.heap.size ≤ k_))) (HO0.out) (fun k_ hk => hk))) (Nat.le_refl _) (Kd.F_nil _ _ _))) (Reps.none _ _))); intro v114 v0_ ho5 hb hg_ hnew_; clear hg_ hnew_; (first | rw [← Ny113.out] at ho5 | (simp only [Int.reduceToNat] at ho5; rw [← Ny113.out] at ho5)); have n_ := as3 (Kd.V_elder' (by (with_reducible repeat (first | apply Kd.V_alloc | apply Kd.V_drewN | apply Kd.V_drew)); exact HO0.out) (Kd.N_base ho5) hb) (Kd.N_lower ho5 (below_size zz0)) (below_step zz0 hb); clear HO0 HB; obtain ⟨HO0, HO115, HB⟩ := n_; clear hb ho5; obtain ⟨Ao6, co6, eo6⟩ := Kd.N_slice HO115.out; subst eo6) | ((with_reducible refine gate_dst (N := 11) rfl ?_); (try (refine gate_guard (by rfl) ?_; dsimp only)); refine Kd.N_lit k38 _ 38 ?hg (N' := 11) ?hd (xs := ([(⟨(⟨#[]⟩ : ByteArray), y113⟩ : S38)] : List (S38))) (inner := [.string (⟨#[]⟩ : ByteArray), .slice Ao6 y113.length co6]) (ok := (fun k_ => (P0_ k_ ∨ w.heap.size ≤ k_))) (okp := (fun k_ => (P0_ k_ ∨ w.heap.size ≤ k_))) ?hr ?hp (fun _ hk => hk) ((show ∀ k_, v0_.heap.size ≤ k_ → (fun k_ => (P0_ k_ ∨ w.heap.size ≤ k_)) k_ from fun k_ hk => (.inr (Nat.le_trans (below_size zz0) hk))) _ (Nat.le_refl _)) (Below.refl _ _) (Nat.le_refl _) (by simp) ?_; (case hd => rfl); (case hg => rfl); (case hr => exact zz29); (case hp => exact (Reps.c2 (show Kd.FK k38 _ _ (⟨(⟨#[]⟩ : ByteArray), y113⟩ : S38) [.string (⟨#[]⟩ : ByteArray), .slice Ao6 y113.length co6] from (k38_mkF _ _ (⟨(⟨#[]⟩ : ByteArray), y113⟩ : S38) (Kd.N_reads' (Kd.N_mono (ok' := (fun k_ => (P0_ k_ ∨ w.heap.size ≤ k_))) (HO115.out) (fun k_ hk => hk))).2.1 (Kd.N_F (Kd.N_mono (ok' := (fun k_ => (P0_ k_ ∨ w.heap.size ≤ k_))) (HO115.out) (fun k_ hk => hk))))) (Reps.none _ _))); intro v117 v1_ ho8 hb hg_ hnew_; clear hg_ hnew_; (first | rw [← Ny116.out] at ho8 | (simp only [Int.reduceToNat] at ho8; rw [← Ny116.out] at ho8)); have n_ := as3 (Kd.V_elder' (by (with_reducible repeat (first | apply Kd.V_alloc | apply Kd.V_drewN | apply Kd.V_drew)); exact HO0.out) (Kd.N_base ho8) hb) (Kd.N_lower ho8 (below_size zz0)) (below_step zz0 hb); clear HO0 HB HO115; obtain ⟨HO0, HO118, HB⟩ := n_; clear hb ho8; obtain ⟨Ao9, co9, eo9⟩ := Kd.N_slice HO118.out; subst eo9) | (go_at_call 9; (with_reducible refine (cardexplay_Small.calls k _ _ y116 t119 _ ?side1 ?side2 A3.out).mono ?_); (case side1 => exact (by repeat (first | exact (Kd.N_reads' HO118.out).2.2 | (with_reducible refine Kd.C_alloc ?_ _) | (with_reducible refine Kd.C_drewN ?_ _) | (with_reducible refine Kd.C_drew ?_)))); (case side2 => exact (Kd.N_reads' HO118.out).2.1); rintro e v2_ ⟨rfl, hb⟩; have n_ := as3 (Kd.V_below (by (with_reducible repeat (first | apply Kd.V_alloc | apply Kd.V_drewN | apply Kd.V_drew)); exact HO0.out) hb) (Kd.N_below (by (with_reducible repeat (first | apply Kd.N_alloc | apply Kd.N_drewN | apply Kd.N_drew)); exact HO118.out) hb) (below_step zz0 hb); clear HO0 HO118 HB; obtain ⟨HO0, HO118, HB⟩ := n_; (try clear hb)))
 go_ret; exact ⟨zz4, zz0⟩) : P := h
set_option maxHeartbeats 8000000 in
set_option maxRecDepth 100000 in
theorem cardexplay_SmallItems.calls (k : Nat) (P0_ : Nat → Prop) (A0 : Option Addr) (c0 : Nat) (l0 : List (S24)) (r : Bool) (w : World) (hs0 : Kd.V k24 24 w w.heap.size (fun k_ => P0_ k_) (.slice A0 l0.length c0) l0) (h : cardexplay_SmallItems.f k l0 = some r) :
  Calls Tryz.prog 5 #[.slice A0 l0.length c0] w fun e w' => e = .returned (.bool r) ∧ Below w.heap.size w w' := by
 have hu35 := Tryz.underlying35
 have hu38 := Tryz.underlying38
 have hu41 := Tryz.underlying41
 have HO0 := Aside0.mk (show Kd.V k24 24 w w.heap.size (fun k_ => (P0_ k_ ∨ w.heap.size ≤ k_)) (.slice A0 l0.length c0) l0 from Kd.V_mono hs0 (fun k_ hk => .inl hk))
 have HB := Aside0.mk (Below.refl w.heap.size w)
 have H : (if (l0.length : Int) ≤ 150 then ((cardexplay_Small.f k (([(⟨(⟨#[]⟩ : ByteArray), (([(⟨(⟨#[]⟩ : ByteArray), (⟨#[]⟩ : ByteArray), l0, ([] : List ByteArray)⟩ : S35)] : List (S35)))⟩ : S38)] : List (S38)))).bind fun t119 => (some t119)) else (some false)) = some r := h
 clear h
 by_cases c2 : (l0.length : Int) ≤ 150
 ·rw [if_pos c2] at H
  have c2b0 := decide_eq_true c2
  have c2b1 : decide (l0.length ≤ 150) = true := decide_eq_true (by omega)
  clear c2
  obtain ⟨y113, hy113⟩ : ∃ y_ : List (S35), y_ = (([(⟨(⟨#[]⟩ : ByteArray), (⟨#[]⟩ : ByteArray), l0, ([] : List ByteArray)⟩ : S35)] : List (S35))) := ⟨_, rfl⟩
  replace H : ((cardexplay_Small.f k (([(⟨(⟨#[]⟩ : ByteArray), y113⟩ : S38)] : List (S38)))).bind fun t119 => (some t119)) = some r := by first | (rw [hy113]; with_reducible exact H) | (have H2_ := (Option.bind_some _ _).symm.trans H; rw [hy113]; with_reducible exact H2_) | (have H2_ := (Option.bind_some _ _).symm.trans H; with_reducible exact H2_) | with_reducible exact H | (rw [hy113]; exact H) | exact H
  have Ny113 := Aside0.mk hy113
  clear hy113
  obtain ⟨y116, hy116⟩ : ∃ y_ : List (S38), y_ = (([(⟨(⟨#[]⟩ : ByteArray), y113⟩ : S38)] : List (S38))) := ⟨_, rfl⟩
  replace H : ((cardexplay_Small.f k y116).bind fun t119 => (some t119)) = some r := by first | (rw [hy116]; with_reducible exact H) | (have H2_ := (Option.bind_some _ _).symm.trans H; rw [hy116]; with_reducible exact H2_) | (have H2_ := (Option.bind_some _ _).symm.trans H; with_reducible exact H2_) | with_reducible exact H | (rw [hy116]; exact H) | exact H
  have Ny116 := Aside0.mk hy116
  clear hy116
  replace H := Option.bind_eq_some_iff.mp H
  obtain ⟨t119, A30, H⟩ := H
  try dsimp only at H
  have A3 := Aside0.mk A30
  clear A30
  obtain rfl := Option.some.inj H
  exact lf0
 rw [if_neg c2] at H
 have c2b0 := decide_eq_false c2
 have c2b1 : decide (l0.length ≤ 150) = false := decide_eq_false (by omega)
 clear c2
 obtain rfl := Option.some.inj H
 exact lf0
def strings_Cut.f (a0 a1 : ByteArray) : Option (ByteArray × ByteArray × Bool) :=
 if a0.size < 4294967281 then some (⟨(Lib.cut a0.data.toList a1.data.toList).1.toArray⟩, ⟨(Lib.cut a0.data.toList a1.data.toList).2.1.toArray⟩, (Lib.cut a0.data.toList a1.data.toList).2.2) else none
set_option maxHeartbeats 4000000 in
set_option maxRecDepth 100000 in
theorem strings_Cut.calls (a0 a1 : ByteArray) (r1 r2 : ByteArray) (r3 : Bool) (w : World) (h : strings_Cut.f a0 a1 = some (r1, r2, r3)) (hT : Tabs w) :
  Calls Tryz.prog 61 #[.string a0, .string a1] w fun e w' => e = .returned (.tuple #[.string r1, .string r2, .bool r3]) ∧ Below w.heap.size w w' := by
 unfold strings_Cut.f at h
 split at h
 ·rename_i hs
  obtain ⟨m, hm⟩ := hT.2
  cases h
  refine (Tryz.strings_Cut a0 a1 m w hs hm).mono ?_
  rintro e w' ⟨rfl, n, rfl⟩
  exact ⟨rfl, pw_below_drewN (Below.refl w.heap.size w) n⟩
 cases h
def jid_parts.f (a0 : ByteArray) : Option (ByteArray × Bool × ByteArray × ByteArray × Bool) := (strings_Cut.f a0 (⟨#[47]⟩ : ByteArray)).bind fun bt122 => ((strings_Cut.f bt122.1 (⟨#[64]⟩ : ByteArray)).bind fun bt125 => (if bt125.2.2 = true then (some (bt125.1, bt125.2.2, bt125.2.1, bt122.2.1, bt122.2.2)) else (some ((⟨#[]⟩ : ByteArray), bt125.2.2, bt122.1, bt122.2.1, bt122.2.2))))
set_option maxRecDepth 100000 in
theorem lf1 {P : Prop} (h : P := by
 go_enter Tryz.func46, Tryz.ntmps46
 go_wp2_with (first | ((with_reducible refine gd 2 ?_); refine bz #[.string (⟨#[]⟩ : ByteArray), .bool false] 75 ?_; intro gb120 hg v0_ hbox hb; have n_ := as4 (below_step zz0 hb) hbox (gs w hg zz0) (gs w hg zz0); clear HB; obtain ⟨HB, BK120, GW120, GE120⟩ := n_; clear hb hbox hg) | ((with_reducible refine gd 4 ?_); refine bz #[.string (⟨#[]⟩ : ByteArray), .bool false] 75 ?_; intro gb121 hg v1_ hbox hb; have n_ := as7 (blk_below zz51 hb) (below_step zz72 hb) hbox (gs w hg zz72) (gs w hg zz72) (nl hg zz51) (ng hg zz51); clear BK120 HB; obtain ⟨BK120, HB, BK121, GW121, GE121, NB120_121, NB121_120⟩ := n_; clear hb hbox hg) | ((with_reducible refine gc 61 ?_); refine gL (some 13) Tryz.func61 #[.string a0, .string (⟨#[47]⟩ : ByteArray)] ?_; (with_reducible refine (strings_Cut.calls a0 (⟨#[47]⟩ : ByteArray) t122 t123 t124 _ A2.out (tabs_b HT.out zz36)).mono ?_); rintro e v2_ ⟨rfl, hb⟩; refine ⟨_, rfl, ?_⟩; have n_ := as3 (blk_below zz51 hb) (blk_below (by (with_reducible repeat (first | refine blk_drewN ?_ _ | refine blk_drew ?_ | refine blk_alloc ?_ _)); exact BK121.out) hb) (below_step zz36 hb); clear BK120 BK121 HB; obtain ⟨BK120, BK121, HB⟩ := n_; (try clear hb)) | ((with_reducible refine gc 61 ?_); refine gL (some 19) Tryz.func61 #[.string t122, .string (⟨#[64]⟩ : ByteArray)] ?_; (with_reducible refine (strings_Cut.calls t122 (⟨#[64]⟩ : ByteArray) t125 t126 true _ A3.out (tabs_b HT.out zz36)).mono ?_); rintro e v3_ ⟨rfl, hb⟩; refine ⟨_, rfl, ?_⟩; have n_ := as3 (blk_below zz51 hb) (blk_below (by (with_reducible repeat (first | refine blk_drewN ?_ _ | refine blk_drew ?_ | refine blk_alloc ?_ _)); exact BK121.out) hb) (below_step zz36 hb); clear BK120 BK121 HB; obtain ⟨BK120, BK121, HB⟩ := n_; (try clear hb); have hn120_121 := NB120_121.out; have hn121_120 := NB121_120.out; obtain ⟨hcz120_0, hcz120_1⟩ := cz2 BK120.out; obtain ⟨hfz120_0, hfz120_1⟩ := fz2 BK120.out; obtain ⟨hcz121_0, hcz121_1⟩ := cz2 BK121.out; obtain ⟨hfz121_0, hfz121_1⟩ := fz2 BK121.out) | ((with_reducible refine gc 61 ?_); refine gL (some 19) Tryz.func61 #[.string t122, .string (⟨#[64]⟩ : ByteArray)] ?_; (with_reducible refine (strings_Cut.calls t122 (⟨#[64]⟩ : ByteArray) t125 t126 false _ A3.out (tabs_b HT.out zz36)).mono ?_); rintro e v3_ ⟨rfl, hb⟩; refine ⟨_, rfl, ?_⟩; have n_ := as3 (blk_below zz51 hb) (blk_below (by (with_reducible repeat (first | refine blk_drewN ?_ _ | refine blk_drew ?_ | refine blk_alloc ?_ _)); exact BK121.out) hb) (below_step zz36 hb); clear BK120 BK121 HB; obtain ⟨BK120, BK121, HB⟩ := n_; (try clear hb); have hn120_121 := NB120_121.out; have hn121_120 := NB121_120.out; obtain ⟨hcz120_0, hcz120_1⟩ := cz2 BK120.out; obtain ⟨hfz120_0, hfz120_1⟩ := fz2 BK120.out; obtain ⟨hcz121_0, hcz121_1⟩ := cz2 BK121.out; obtain ⟨hfz121_0, hfz121_1⟩ := fz2 BK121.out))
 first
  | (refine bodyPost_ret (results_list (rs := [.cell 2 75, .tmp 3, .cell 4 75]) rfl (by simp) (.cell gb120 75 #[.string t125, .bool true] (0, 0) _ rfl (by (with_reducible repeat (first | refine blk_drewN ?_ _ | refine blk_drew ?_ | refine blk_alloc ?_ _)); refine blk_far ?_ NB120_121.out _; (with_reducible repeat (first | refine blk_drewN ?_ _ | refine blk_drew ?_ | refine blk_alloc ?_ _)); refine blk_far ?_ NB120_121.out _; (with_reducible repeat (first | refine blk_drewN ?_ _ | refine blk_drew ?_ | refine blk_alloc ?_ _)); refine blk_put (cs := #[.string t125, .bool false]) ?_ 1 _ rfl; (with_reducible repeat (first | refine blk_drewN ?_ _ | refine blk_drew ?_ | refine blk_alloc ?_ _)); refine blk_put (cs := #[.string (⟨#[]⟩ : ByteArray), .bool false]) ?_ 0 _ rfl; (with_reducible repeat (first | refine blk_drewN ?_ _ | refine blk_drew ?_ | refine blk_alloc ?_ _)); exact BK120.out) Tryz.underlying75 rfl zz34 (.tmp (.cell gb121 75 #[.string t123, .bool t124] (0, 0) _ rfl (by (with_reducible repeat (first | refine blk_drewN ?_ _ | refine blk_drew ?_ | refine blk_alloc ?_ _)); refine blk_put (cs := #[.string t123, .bool false]) ?_ 1 _ rfl; (with_reducible repeat (first | refine blk_drewN ?_ _ | refine blk_drew ?_ | refine blk_alloc ?_ _)); refine blk_put (cs := #[.string (⟨#[]⟩ : ByteArray), .bool false]) ?_ 0 _ rfl; (with_reducible repeat (first | refine blk_drewN ?_ _ | refine blk_drew ?_ | refine blk_alloc ?_ _)); refine blk_far ?_ NB121_120.out _; (with_reducible repeat (first | refine blk_drewN ?_ _ | refine blk_drew ?_ | refine blk_alloc ?_ _)); refine blk_far ?_ NB121_120.out _; (with_reducible repeat (first | refine blk_drewN ?_ _ | refine blk_drew ?_ | refine blk_alloc ?_ _)); exact BK121.out) Tryz.underlying75 rfl zz34 .nil)))) rfl ?_; exact ⟨zz4, zz36⟩)
  | (refine bodyPost_ret (results_list (rs := [.cell 2 75, .tmp 3, .cell 4 75]) rfl (by simp) (.cell gb120 75 #[.string (⟨#[]⟩ : ByteArray), .bool false] (0, 0) _ rfl (by (with_reducible repeat (first | refine blk_drewN ?_ _ | refine blk_drew ?_ | refine blk_alloc ?_ _)); refine blk_far ?_ NB120_121.out _; (with_reducible repeat (first | refine blk_drewN ?_ _ | refine blk_drew ?_ | refine blk_alloc ?_ _)); refine blk_far ?_ NB120_121.out _; (with_reducible repeat (first | refine blk_drewN ?_ _ | refine blk_drew ?_ | refine blk_alloc ?_ _)); refine blk_put (cs := #[.string (⟨#[]⟩ : ByteArray), .bool false]) ?_ 1 _ rfl; (with_reducible repeat (first | refine blk_drewN ?_ _ | refine blk_drew ?_ | refine blk_alloc ?_ _)); refine blk_put (cs := #[.string (⟨#[]⟩ : ByteArray), .bool false]) ?_ 0 _ rfl; (with_reducible repeat (first | refine blk_drewN ?_ _ | refine blk_drew ?_ | refine blk_alloc ?_ _)); exact BK120.out) Tryz.underlying75 rfl zz34 (.tmp (.cell gb121 75 #[.string t123, .bool t124] (0, 0) _ rfl (by (with_reducible repeat (first | refine blk_drewN ?_ _ | refine blk_drew ?_ | refine blk_alloc ?_ _)); refine blk_put (cs := #[.string t123, .bool false]) ?_ 1 _ rfl; (with_reducible repeat (first | refine blk_drewN ?_ _ | refine blk_drew ?_ | refine blk_alloc ?_ _)); refine blk_put (cs := #[.string (⟨#[]⟩ : ByteArray), .bool false]) ?_ 0 _ rfl; (with_reducible repeat (first | refine blk_drewN ?_ _ | refine blk_drew ?_ | refine blk_alloc ?_ _)); refine blk_far ?_ NB121_120.out _; (with_reducible repeat (first | refine blk_drewN ?_ _ | refine blk_drew ?_ | refine blk_alloc ?_ _)); refine blk_far ?_ NB121_120.out _; (with_reducible repeat (first | refine blk_drewN ?_ _ | refine blk_drew ?_ | refine blk_alloc ?_ _)); exact BK121.out) Tryz.underlying75 rfl zz34 .nil)))) rfl ?_; exact ⟨zz4, zz36⟩)) : P := h
set_option maxHeartbeats 8000000 in
set_option maxRecDepth 100000 in
theorem jid_parts.calls (a0 : ByteArray) (r1 : ByteArray) (r2 : Bool) (r3 : ByteArray) (r4 : ByteArray) (r5 : Bool) (w : World) (h : jid_parts.f a0 = some (r1, r2, r3, r4, r5)) (hT : Tabs w) :
  Calls Tryz.prog 46 #[.string a0] w fun e w' => e = .returned (.tuple #[.agg #[.string r1, .bool r2], .string r3, .agg #[.string r4, .bool r5]]) ∧ Below w.heap.size w w' := by
 have hu75 := Tryz.underlying75
 have HT := Aside0.mk hT
 clear hT
 have HB := Aside0.mk (Below.refl w.heap.size w)
 have H : ((strings_Cut.f a0 (⟨#[47]⟩ : ByteArray)).bind fun bt122 => ((strings_Cut.f bt122.1 (⟨#[64]⟩ : ByteArray)).bind fun bt125 => (if bt125.2.2 = true then (some (bt125.1, bt125.2.2, bt125.2.1, bt122.2.1, bt122.2.2)) else (some ((⟨#[]⟩ : ByteArray), bt125.2.2, bt122.1, bt122.2.1, bt122.2.2))))) = some (r1, r2, r3, r4, r5) := h
 clear h
 replace H := Option.bind_eq_some_iff.mp H
 obtain ⟨⟨t122, t123, t124⟩, A20, H⟩ := H
 try dsimp only at H
 have A2 := Aside0.mk A20
 clear A20
 replace H := Option.bind_eq_some_iff.mp H
 obtain ⟨⟨t125, t126, t127⟩, A30, H⟩ := H
 try dsimp only at H
 have A3 := Aside0.mk A30
 clear A30
 by_cases c4 : t127 = true
 ·subst c4
  have H1 : (some (t125, true, t126, t123, t124)) = some (r1, r2, r3, r4, r5) := by rw [if_pos rfl] at H; exact H
  clear H
  have H := H1
  clear H1
  simp only [Option.some.injEq, Prod.mk.injEq] at H
  obtain ⟨rfl, rfl, rfl, rfl, rfl⟩ := H
  exact lf1
 replace c4 := Bool.eq_false_iff.mpr c4
 subst c4
 have H1 : (some ((⟨#[]⟩ : ByteArray), false, t122, t123, t124)) = some (r1, r2, r3, r4, r5) := by rw [if_neg (show ¬ (false = true) by decide)] at H; exact H
 clear H
 have H := H1
 clear H1
 simp only [Option.some.injEq, Prod.mk.injEq] at H
 obtain ⟨rfl, rfl, rfl, rfl, rfl⟩ := H
 exact lf1
-- NOT PRINTED: function 51 (utf8_ValidString)
set_option maxHeartbeats 1000000 in
theorem slices_IndexFunc_rune_rune.hof (A0 : Option Addr) (c0 : Nat) (l0 : List Int) (F : Nat) (caps : Array Value) (g : Int → Bool) (w : World)
  (hr0 : Kd.C (Kd.int .i32) w A0 l0.length l0) (hl : l0.length ≤ 140737488351232) (hF : IsFn Tryz.prog F)
  (hg : ∀ (x : Int) (W : World), x ∈ l0 → Below w.heap.size w W → Calls Tryz.prog F (#[.int .i32 x] ++ caps) W fun e W' => e = .returned (.bool (g x)) ∧ Below W.heap.size W W') :
  Calls Tryz.prog 98 #[.slice A0 l0.length c0, .func (.func F) #[] caps] w fun e w' => e = .returned (.int .i64 (idxP g l0)) ∧ Below w.heap.size w w' := by
 have HB := Aside0.mk (Below.refl w.heap.size w)
 have HR := Aside0.mk hr0
 have HG := Aside0.mk hg
 clear hr0 hg
 go_enter Tryz.func98, Tryz.ntmps98
 go_wp2
 go_loopg [5, 8] (l0.length + 1) (fun gk v5 v8 wr => ∃ i : Nat, i ≤ l0.length ∧ v8 = .int .i64 i ∧ Aside0 (∀ j (hj : j < i) (hj' : j < l0.length), g (l0[j]'hj') = false) ∧ l0.length < gk + i ∧ Aside0 (Below w.heap.size w wr))
 case atStart => exact ⟨0, Nat.zero_le _, rfl, ⟨fun j hj => absurd hj (by omega)⟩, by omega, HB⟩
 case round =>
  clear HB
  obtain ⟨i, hi, rfl, HN, hk, HB⟩ := hrel
  by_cases hlt : i < l0.length
  ·obtain ⟨k', rfl⟩ : ∃ k', gk = k' + 1 := ⟨gk - 1, by omega⟩
   have hltz : (i : Int) < (l0.length : Int) := by omega
   obtain ⟨ad, e1, hx⟩ := Kd.at_int (Kd.C_below HR.out HB.out) (i : Int) (by omega) (by omega)
   cases e1
   rw [Int.toNat_natCast, rd_get l0 i hlt] at hx
   obtain ⟨x, hxx⟩ : ∃ x, l0[i] = x := ⟨_, rfl⟩
   rw [hxx] at hx
   have HX := Aside0.mk hxx
   clear hxx
   cases hgx : g x with
   | true =>
    have HGX := Aside0.mk hgx
    clear hgx
    go_wp2_with (first | ((with_reducible refine gate_value rfl ?_); refine goesV (some 16) rfl rfl rfl rfl hF #[.int .i32 x] zz39 ?_; (with_reducible refine (HG.out x _ (mem_of_getElem HX.out) HB.out).mono ?_); rintro e w4 ⟨rfl, hb⟩; refine ⟨_, rfl, ?_⟩; have HB2 := Aside0.mk (below_step HB.out hb); clear HB hb; rw [HGX.out]))
    go_ret
    exact ⟨by rw [idxP_hit hlt (fun j hj => HN.out j hj _) (by rw [HX.out]; exact HGX.out)]; rfl, HB2.out⟩
   | false =>
    have HGX := Aside0.mk hgx
    clear hgx
    go_wp2_with (first | ((with_reducible refine gate_value rfl ?_); refine goesV (some 16) rfl rfl rfl rfl hF #[.int .i32 x] zz39 ?_; (with_reducible refine (HG.out x _ (mem_of_getElem HX.out) HB.out).mono ?_); rintro e w4 ⟨rfl, hb⟩; refine ⟨_, rfl, ?_⟩; have HB2 := Aside0.mk (below_step HB.out hb); clear HB hb; rw [HGX.out]))
    go_roundg k'
    case measure => omega
    case rel => exact ⟨i + 1, by omega, by go_num, ⟨fun j hj hj' => by
     rcases Nat.lt_or_ge j i with h | h
     ·exact HN.out j h hj'
     obtain rfl : j = i := by omega
     rw [HX.out]; exact HGX.out⟩, by omega, HB2⟩
  have : i = l0.length := by omega
  subst this
  go_wp2
  go_ret
  exact ⟨by rw [idxP_none (fun j hj => HN.out j hj hj)]; rfl, HB.out⟩
theorem slices_ContainsFunc_rune_rune.hof (A0 : Option Addr) (c0 : Nat) (l0 : List Int) (F : Nat) (caps : Array Value) (g : Int → Bool) (w : World)
  (hr0 : Kd.C (Kd.int .i32) w A0 l0.length l0) (hl : l0.length ≤ 140737488351232) (hF : IsFn Tryz.prog F)
  (hg : ∀ (x : Int) (W : World), x ∈ l0 → Below w.heap.size w W → Calls Tryz.prog F (#[.int .i32 x] ++ caps) W fun e W' => e = .returned (.bool (g x)) ∧ Below W.heap.size W W') :
  Calls Tryz.prog 73 #[.slice A0 l0.length c0, .func (.func F) #[] caps] w fun e w' => e = .returned (.bool (l0.any g)) ∧ Below w.heap.size w w' := by
 have H := Aside0.mk (slices_IndexFunc_rune_rune.hof A0 c0 l0 F caps g w hr0 hl hF hg)
 clear hr0 hg hl
 go_enter Tryz.func73, Tryz.ntmps73
 go_wp2_with (go_at_call 98; (with_reducible refine H.out.mono ?_); rintro e w' ⟨rfl, hb⟩; have HB := Aside0.mk hb; clear hb H)
 go_ret
 exact ⟨by rw [← idxP_any]; rfl, HB.out⟩
theorem utf_each_rune_1.hof (x : Int) (b : Nat) (F : Nat) (caps : Array Value) (g : Int → Bool) (w : World) (hF : IsFn Tryz.prog F)
  (hc : w.cell? ⟨b, 0, none⟩ = some (.func (.func F) #[] caps))
  (hg : Calls Tryz.prog F (#[.int .i32 x] ++ caps) w fun e W' => e = .returned (.bool (g x)) ∧ Below w.heap.size w W') :
  Calls Tryz.prog 74 #[.int .i32 x, .pointer (some ⟨b, 0, none⟩)] w fun e w' => e = .returned (.bool (!g x)) ∧ Below w.heap.size w w' := by
 have HG := Aside0.mk hg
 clear hg
 go_enter Tryz.func74, Tryz.ntmps74
 go_wp2_with (first | ((with_reducible refine gate_value rfl ?_); refine goesV (some 6) rfl rfl rfl rfl hF #[.int .i32 x] zz39 ?_; (with_reducible refine HG.out.mono ?_); rintro e w4 ⟨rfl, hb⟩; refine ⟨_, rfl, ?_⟩; have HB2 := Aside0.mk hb; clear hb HG))
 go_ret
 exact ⟨rfl, HB2.out⟩
theorem utf_each_rune.hof (A0 : Option Addr) (c0 : Nat) (l0 : List Int) (F : Nat) (caps : Array Value) (g : Int → Bool) (w : World)
  (hr0 : Kd.C (Kd.int .i32) w A0 l0.length l0) (hl : l0.length ≤ 140737488351232) (hF : IsFn Tryz.prog F)
  (hg : ∀ (x : Int) (W : World), x ∈ l0 → Below w.heap.size w W → Calls Tryz.prog F (#[.int .i32 x] ++ caps) W fun e W' => e = .returned (.bool (g x)) ∧ Below W.heap.size W W') :
  Calls Tryz.prog 52 #[.slice A0 l0.length c0, .func (.func F) #[] caps] w fun e w' => e = .returned (.bool (l0.all g)) ∧ Below w.heap.size w w' := by
 have HR := Aside0.mk hr0
 have HG := Aside0.mk hg
 clear hr0 hg
 have hF1 : IsFn Tryz.prog 74 := ⟨⟨_, Tryz.func74, zz34, rfl⟩⟩
 go_enter Tryz.func52, Tryz.ntmps52
 go_wp2_with (go_at_call 73; go_must (refine (slices_ContainsFunc_rune_rune.hof A0 c0 l0 74 #[.pointer (some ⟨w.heap.size, 0, none⟩)] (fun x => !g x) _ (Kd.C_below HR.out (below_alloc (Below.refl _ _) _)) hl hF1 (fun x W hx hb => utf_each_rune_1.hof x _ F caps g W hF (box_cell hb) (HG.out x W hx (below_a hb)))).mono ?_); rintro e w' ⟨rfl, hb⟩; have HB := Aside0.mk (below_a hb); clear hb HG HR)
 go_ret
 exact ⟨by rw [show l0.all g = !(l0.any fun x => !g x) from by rw [List.all_eq_not_any_not]]; rfl, HB.out⟩
set_option maxRecDepth 100000 in
theorem utf_text.hof (s : ByteArray) (F : Nat) (caps : Array Value) (g : Int → Bool) (w : World) (hs : s.size ≤ 70368744177664) (hT : Tabs w) (hF : IsFn Tryz.prog F)
  (hg : ∀ (x : Int) (W : World), x ∈ runesI s → Below w.heap.size w W → Calls Tryz.prog F (#[.int .i32 x] ++ caps) W fun e W' => e = .returned (.bool (g x)) ∧ Below W.heap.size W W') :
  Calls Tryz.prog 35 #[.string s, .func (.func F) #[] caps] w fun e w' => e = .returned (.bool (validD s.data.toList && (runesI s).all g)) ∧ Below w.heap.size w w' := by
 have HG := Aside0.mk hg
 have HV := Aside0.mk (Tryz.utf8_ValidString s w (by omega) hT.1)
 have HS := Aside0.mk hs
 clear hg hT hs
 cases hv : validD s.data.toList with
 | false =>
  rw [hv] at HV
  clear hv
  go_enter Tryz.func35, Tryz.ntmps35
  go_wp2_with (go_at_call 51; (with_reducible refine HV.out.mono ?_); rintro e w' ⟨rfl, hb⟩; have HB := Aside0.mk hb; clear hb HV)
  go_ret
  exact ⟨rfl, HB.out⟩
 | true =>
  rw [hv] at HV
  clear hv
  have kc := fun W : World => run_runesI (P := Tryz.prog) W 9 80 21 s Tryz.underlying9 Tryz.underlying80 Tryz.underlying21 HS.out
  go_enter Tryz.func35, Tryz.ntmps35
  go_wp2_with (first | (go_at_call 51; (with_reducible refine HV.out.mono ?_); rintro e w1 ⟨rfl, hb⟩; have HB := Aside0.mk hb; clear hb HV) | (go_at_call 52; go_must (refine (utf_each_rune.hof _ _ (runesI s) F caps g _ (runes_C HS.out (below_drew (Below.refl _ _))) (by have := runesI_len s; have := HS.out; omega) hF (fun x W hx hb => HG.out x W hx (below2 (below_drew (below_alloc HB.out _)) hb))).mono ?_); rintro e w2 ⟨rfl, hb⟩; have HB2 := Aside0.mk (below2 (below_drew (below_alloc HB.out _)) hb); clear hb HB HG))
  go_ret
  exact ⟨rfl, HB2.out⟩
end Go.Proofs.YtaekklpphlcngaaGreatDoor.Q
