-- Written by hookprint.py (wip/) of this session: the kit's print with hand-proved functions beside it. Not trusted: Lean checks it.
import Derived.Test.YtaekklpphlcngaaGreatDoorQ0
import Derived.Test.YtaekklpphlcngaaGreatDoorQ7
import Derived.Test.YtaekklpphlcngaaGreatDoorQ14
import Derived.Test.YtaekklpphlcngaaGreatDoorQ15
namespace Go.Proofs.YtaekklpphlcngaaGreatDoor.Q
open List (setIfInBounds_toArray set_cons_zero set_cons_succ)
open Go.RowKit Go.Lib Go.Proofs.YtaekklpphlcngaaGreatDoorX Go.Proofs.YtaekklpphlcngaaGreatDoorW.PrintWords Go.Proofs.YtaekklpphlcngaaGreatDoorW.PrintLast Go.Proofs.YtaekklpphlcngaaGreatDoorW.PrintMore
set_option linter.unusedVariables false
set_option linter.unusedSimpArgs false
def cardexplay_Item.l0 : Nat → List ByteArray → Int → ByteArray → ByteArray → List ByteArray → Int → Bool → Bool → ByteArray → ByteArray → Int → Bool → Bool → Option (ByteArray × ByteArray × List ByteArray × Int × Bool × Bool)
 | 0, _, _, _, _, _, _, _, _, _, _, _, _, _ => none
 | k + 1, x6, x7, x480000, x480001, x480002, x480003, x480004, x480005, x485000, x485001, x485003, x485004, x485005 => if x7 < (x480002.length : Int) then (if x7 < 4 then (if 0 ≤ x7 then ((cardexplay_Line.f k (rdOf ByteArray.empty x480002 x7) 30).bind fun t486 => (if x6.length < 8796093022208 then (cardexplay_Item.l0 k (x6 ++ [t486]) (wrap64 (x7 + 1)) x480000 x480001 x480002 x480003 x480004 x480005 x485000 x485001 x485003 x485004 x485005) else (none))) else (none)) else ((cardexref08_Groups.f x6).bind fun t490 => (if x480004 = true then (if x485003 = 0 then (if x480005 = true then (some (x485000, x485001, t490, x485003, true, true)) else (some (x485000, x485001, t490, x485003, true, false))) else (if x480005 = true then (some (x485000, x485001, t490, x485003, (x485003 == 2), (x485003 == 1))) else (some (x485000, x485001, t490, x485003, (x485003 == 2), false)))) else (if x480005 = true then (if x485003 = 0 then (some (x485000, x485001, t490, x485003, false, true)) else (some (x485000, x485001, t490, x485003, false, (x485003 == 1)))) else (some (x485000, x485001, t490, x485003, false, false)))))) else ((cardexref08_Groups.f x6).bind fun t493 => (if x480004 = true then (if x485003 = 0 then (if x480005 = true then (some (x485000, x485001, t493, x485003, true, true)) else (some (x485000, x485001, t493, x485003, true, false))) else (if x480005 = true then (some (x485000, x485001, t493, x485003, (x485003 == 2), (x485003 == 1))) else (some (x485000, x485001, t493, x485003, (x485003 == 2), false)))) else (if x480005 = true then (if x485003 = 0 then (some (x485000, x485001, t493, x485003, false, true)) else (some (x485000, x485001, t493, x485003, false, (x485003 == 1)))) else (some (x485000, x485001, t493, x485003, false, false)))))
def cardexplay_Item.f (k : Nat) (a0_0 : ByteArray) (a0_1 : ByteArray) (l0_2 : List ByteArray) (a0_3 : Int) (a0_4 : Bool) (a0_5 : Bool) (a1 : Int) : Option (ByteArray × ByteArray × List ByteArray × Int × Bool × Bool) := (cardexplay_Jid.f k a0_0 a1).bind fun t481 => ((cardexplay_Line.f k a0_1 100).bind fun t482 => ((cardexplay_mod.f a0_3 4).bind fun t483 => (cardexplay_Item.l0 k ([] : List ByteArray) 0 a0_0 a0_1 l0_2 a0_3 a0_4 a0_5 t481 t482 t483 false false)))
def cardexplay_Item.T1 : Bool × List (List Nat × List Nat) := (true, [([], []), ([0], [0]), ([], []), ([1, 2], [1, 2]), ([], []), ([4], [4]), ([5, 3], [5]), ([], []), ([7], [7]), ([8, 6], [8]), ([3, 6, 9], [3, 6, 9]), ([], []), ([11, 10, 9, 0, 1, 2, 3, 4, 5, 6, 7, 8, 9, 10, 11], [10, 11])])
def cardexplay_Item.B1 : List Nat := [0, 1, 0, 7, 0, 16, 63, 0, 128, 511, 1023, 0, 4095]
theorem cardexplay_Item.tab1 : rtab .any (opsOf Tryz.f7 1) = cardexplay_Item.T1 := by kernel_rfl
theorem cardexplay_Item.bits1 : waitsOk cardexplay_Item.T1.2 cardexplay_Item.B1 = true := by kernel_rfl
set_option maxHeartbeats 8000000 in
set_option maxRecDepth 100000 in
theorem cardexplay_Item.calls (k : Nat) (a0_0 : ByteArray) (a0_1 : ByteArray) (A0_2 : Option Addr) (c0_2 : Nat) (l0_2 : List ByteArray) (a0_3 : Int) (a0_4 : Bool) (a0_5 : Bool) (a1 : Int) (r1 : ByteArray) (r2 : ByteArray) (r3 : List ByteArray) (r4 : Int) (r5 : Bool) (r6 : Bool) (w : World) (hr0_2 : Kd.C Kd.string w A0_2 l0_2.length l0_2) (hc0_2 : l0_2.length ≤ c0_2) (h : cardexplay_Item.f k a0_0 a0_1 l0_2 a0_3 a0_4 a0_5 a1 = some (r1, r2, r3, r4, r5, r6)) :
  Calls Tryz.prog 7 #[.agg #[.string a0_0, .string a0_1, .slice A0_2 l0_2.length c0_2, .int .i64 a0_3, .bool a0_4, .bool a0_5], .int .i64 a1] w fun e w' => ∃ v2_ : Value, e = .returned (.agg #[.string r1, .string r2, v2_, .int .i64 r4, .bool r5, .bool r6]) ∧ Kd.R Kd.string 9 w' w.heap.size (fun _ => True) v2_ r3 ∧ Below w.heap.size w w' := by
 have hu24 := Tryz.underlying24
 have HR0_2 := Aside0.mk hr0_2
 have HC0_2 := Aside0.mk hc0_2
 clear hr0_2 hc0_2
 have HB := Aside0.mk (Below.refl w.heap.size w)
 have H : ((cardexplay_Jid.f k a0_0 a1).bind fun t481 => ((cardexplay_Line.f k a0_1 100).bind fun t482 => ((cardexplay_mod.f a0_3 4).bind fun t483 => (cardexplay_Item.l0 k ([] : List ByteArray) 0 a0_0 a0_1 l0_2 a0_3 a0_4 a0_5 t481 t482 t483 false false)))) = some (r1, r2, r3, r4, r5, r6) := h
 clear h
 replace H := Option.bind_eq_some_iff.mp H
 obtain ⟨t481, A30, H⟩ := H
 try dsimp only at H
 have A3 := Aside0.mk A30
 clear A30
 replace H := Option.bind_eq_some_iff.mp H
 obtain ⟨t482, A40, H⟩ := H
 try dsimp only at H
 have A4 := Aside0.mk A40
 clear A40
 replace H := Option.bind_eq_some_iff.mp H
 obtain ⟨t483, A50, H⟩ := H
 try dsimp only at H
 have A5 := Aside0.mk A50
 clear A50
 have H' := Aside0.mk H
 clear H
 go_enter Tryz.func7, Tryz.ntmps7
 try go_wp2_with (first | ((with_reducible refine gd 2 ?_); refine bz #[.string a0_0, .string a0_1, .slice A0_2 l0_2.length c0_2, .int .i64 a0_3, .bool a0_4, .bool a0_5] 24 ?_; intro gb479 hg w6 hbox hb; have n_ := as4 (below_step zz0 hb) hbox (gs w hg zz0) (gs w hg zz0); clear HB; obtain ⟨HB, BK479, GW479, GE479⟩ := n_; clear hb hbox hg) | ((with_reducible refine gd 4 ?_); refine bz #[.string (⟨#[]⟩ : ByteArray), .string (⟨#[]⟩ : ByteArray), .slice none 0 0, .int .i64 0, .bool false, .bool false] 24 ?_; intro gb480 hg w7 hbox hb; have n_ := as7 (blk_below zz9 hb) (below_step zz70 hb) hbox (gs w hg zz70) (gs w hg zz70) (nl hg zz9) (ng hg zz9); clear BK479 HB; obtain ⟨BK479, HB, BK480, GW480, GE480, NB479_480, NB480_479⟩ := n_; clear hb hbox hg))
 have n_ := as3 (blk_drew BK479.out) (blk_drew BK480.out) (below_drew1 HB.out)
 clear BK479 BK480 HB
 obtain ⟨BK479, BK480, HB⟩ := n_
 refine sz13 (fun w' => w'.cell? ⟨gb479, 0, none⟩ = some (.string a0_0) ∧ w'.cell? ⟨gb479, 1, none⟩ = some (.string a0_1) ∧ w'.cell? ⟨gb479, 2, none⟩ = some (.slice A0_2 l0_2.length c0_2) ∧ w'.cell? ⟨gb479, 3, none⟩ = some (.int .i64 a0_3) ∧ w'.cell? ⟨gb479, 4, none⟩ = some (.bool a0_4) ∧ w'.cell? ⟨gb479, 5, none⟩ = some (.bool a0_5)) [] cardexplay_Item.tab1 cardexplay_Item.bits1 ⟨(blk_cell BK479.out 0).trans rfl, (blk_cell BK479.out 1).trans rfl, (blk_cell BK479.out 2).trans rfl, (blk_cell BK479.out 3).trans rfl, (blk_cell BK479.out 4).trans rfl, (blk_cell BK479.out 5).trans rfl⟩ (fun hHeld HT_ HW_ => ?_)
 generalize w7.drew = w8 at BK479 BK480 HB hHeld ⊢
 refine pz 0 (some 8) ?_; refine pz 2 (some 10) ?_; refine pz 4 (some 12) ?_; refine pz 7 (some 15) ?_; refine t6 1 (some 9) ?_; refine t6 5 (some 13) ?_; refine t6 8 (some 16) ?_
 refine join_ (σ := Nat) 1 #[true, true, true, true, true, true, true, true, true, true, true, true, false] (fun s_ => [(11, .string t481), (14, .string t482), (17, .int .i64 t483), (5, .pointer (some ⟨s_, 0, none⟩)), (18, .agg #[.string t481, .string t482, .slice none 0 0, .int .i64 t483, .bool false, .bool false])]) (fun s_ w' => (w'.cell? ⟨gb479, 0, none⟩ = some (.string a0_0) ∧ w'.cell? ⟨gb479, 1, none⟩ = some (.string a0_1) ∧ w'.cell? ⟨gb479, 2, none⟩ = some (.slice A0_2 l0_2.length c0_2) ∧ w'.cell? ⟨gb479, 3, none⟩ = some (.int .i64 a0_3) ∧ w'.cell? ⟨gb479, 4, none⟩ = some (.bool a0_4) ∧ w'.cell? ⟨gb479, 5, none⟩ = some (.bool a0_5)) ∧ (w'.heap[gb479]? = some (.cells #[.string a0_0, .string a0_1, .slice A0_2 l0_2.length c0_2, .int .i64 a0_3, .bool a0_4, .bool a0_5] 24 (0, 0))) ∧ (w'.heap[gb480]? = some (.cells #[.string (⟨#[]⟩ : ByteArray), .string (⟨#[]⟩ : ByteArray), .slice none 0 0, .int .i64 0, .bool false, .bool false] 24 (0, 0))) ∧ (w'.heap[s_]? = some (.cells #[.string (⟨#[]⟩ : ByteArray), .string (⟨#[]⟩ : ByteArray), .slice none 0 0, .int .i64 0, .bool false, .bool false] 24 (0, 0))) ∧ (w.heap.size ≤ s_) ∧ (w.heap.size ≤ s_) ∧ (gb479 ≠ s_) ∧ (s_ ≠ gb479) ∧ (gb480 ≠ s_) ∧ (s_ ≠ gb480) ∧ (Below w.heap.size w w')) ?_ ?_
 rotate_left
 ·intro hCont
  refine two_ (i := 3) (j := 11) (Ni := some 11) (Nj := some 5) #[true, true, true, true, true, true, false, true, true, false, false, false, false] #[true, true, true, false, true, true, false, true, true, false, false, true, false] rfl rfl rfl rfl (two_of HT_.out zz34) (by decide) (by decide) (fun K hK => ?_) (fun K hK => ?_)
  ·skip
   refine gO Tryz.func13 #[.string a0_0, .int .i64 a1] ?_
   with_reducible refine (cardexplay_Jid.calls k a0_0 a1 t481 _ A3.out).mono ?_
   rintro e w9 ⟨rfl, hb⟩
   refine ⟨_, rfl, ?_⟩
   have n_ := as3 (blk_below zz9 hb) (blk_below zz10 hb) (below_step zz23 hb)
   clear BK479 BK480 HB
   obtain ⟨BK479, BK480, HB⟩ := n_
   (try clear hb)
   refine hK.out _ _ ⟨(blk_cell BK479.out 0).trans rfl, (blk_cell BK479.out 1).trans rfl, (blk_cell BK479.out 2).trans rfl, (blk_cell BK479.out 3).trans rfl, (blk_cell BK479.out 4).trans rfl, (blk_cell BK479.out 5).trans rfl⟩ (fun hHeld => ?_)
   clear hK K
   refine norm_ (a' := ?_) ?_ ?_
   rotate_left
   ·show Act.put _ (some 11) _ = _
    simp only [Act.put, setIfInBounds_toArray, set_cons_zero, set_cons_succ, i64_w, i32_w]
    rfl
   refine two_ (i := 6) (j := 11) (Ni := some 14) (Nj := some 5) #[true, true, true, true, true, true, true, true, true, false, false, false, false] #[true, true, true, true, true, true, false, true, true, false, false, true, false] rfl rfl rfl rfl (two_of HT_.out zz34) (by decide) (by decide) (fun K hK => ?_) (fun K hK => ?_)
   ·skip
    refine gO Tryz.func14 #[.string a0_1, .int .i64 100] ?_
    with_reducible refine (cardexplay_Line.calls k a0_1 100 t482 _ A4.out).mono ?_
    rintro e w10 ⟨rfl, hb⟩
    refine ⟨_, rfl, ?_⟩
    have n_ := as3 (blk_below zz9 hb) (blk_below zz10 hb) (below_step zz23 hb)
    clear BK479 BK480 HB
    obtain ⟨BK479, BK480, HB⟩ := n_
    (try clear hb)
    refine hK.out _ _ ⟨(blk_cell BK479.out 0).trans rfl, (blk_cell BK479.out 1).trans rfl, (blk_cell BK479.out 2).trans rfl, (blk_cell BK479.out 3).trans rfl, (blk_cell BK479.out 4).trans rfl, (blk_cell BK479.out 5).trans rfl⟩ (fun hHeld => ?_)
    clear hK K
    refine norm_ (a' := ?_) ?_ ?_
    rotate_left
    ·show Act.put _ (some 14) _ = _
     simp only [Act.put, setIfInBounds_toArray, set_cons_zero, set_cons_succ, i64_w, i32_w]
     rfl
    refine two_ (i := 9) (j := 11) (Ni := some 17) (Nj := some 5) #[true, true, true, true, true, true, true, true, true, true, false, false, false] #[true, true, true, true, true, true, true, true, true, false, false, true, false] rfl rfl rfl rfl (two_of HT_.out zz34) (by decide) (by decide) (fun K hK => ?_) (fun K hK => ?_)
    ·skip
     refine gO Tryz.func15 #[.int .i64 a0_3, .int .i64 4] ?_
     with_reducible refine (cardexplay_mod.calls a0_3 4 t483 _ A5.out).mono ?_
     rintro e w' ⟨rfl, ⟨nd, rfl⟩⟩
     refine ⟨_, rfl, ?_⟩
     refine hK.out _ _ ⟨(blk_cell BK479.out 0).trans rfl, (blk_cell BK479.out 1).trans rfl, (blk_cell BK479.out 2).trans rfl, (blk_cell BK479.out 3).trans rfl, (blk_cell BK479.out 4).trans rfl, (blk_cell BK479.out 5).trans rfl⟩ (fun hHeld => ?_)
     clear hK K
     refine norm_ (a' := ?_) ?_ ?_
     rotate_left
     ·show Act.put _ (some 17) _ = _
      simp only [Act.put, setIfInBounds_toArray, set_cons_zero, set_cons_succ, i64_w, i32_w]
      rfl
     refine pz 10 (some 18) ?_
     refine oz 11 (some 5) (fun K hK => ?_)
     refine box_step ?hg (N := 5) ?hd (cs := #[.string (⟨#[]⟩ : ByteArray), .string (⟨#[]⟩ : ByteArray), .slice none 0 0, .int .i64 0, .bool false, .bool false]) (t := 24) ?hr ?_; (case hd => rfl); (case hg => rfl); (case hr => exact zz29)
     intro gb484 hg w11 hbox hb
     have n_ := as10 (blk_below zz9 hb) (blk_below zz10 hb) (below_step zz23 hb) hbox (gs w hg zz23) (gs w hg zz23) (nl hg zz9) (ng hg zz9) (nl hg zz10) (ng hg zz10)
     clear BK479 BK480 HB
     obtain ⟨BK479, BK480, HB, BK484, GW484, GE484, NB479_484, NB484_479, NB480_484, NB484_480⟩ := n_
     clear hb hbox hg
     refine hK.out _ _ ⟨(blk_cell BK479.out 0).trans rfl, (blk_cell BK479.out 1).trans rfl, (blk_cell BK479.out 2).trans rfl, (blk_cell BK479.out 3).trans rfl, (blk_cell BK479.out 4).trans rfl, (blk_cell BK479.out 5).trans rfl⟩ (fun hHeld => ?_)
     clear hK K
     refine norm_ (a' := ?_) ?_ ?_
     rotate_left
     ·show Act.put _ (some 5) _ = _
      simp only [Act.put, setIfInBounds_toArray, set_cons_zero, set_cons_succ, i64_w, i32_w]
      rfl
     exact norm_ (by simp only [putAll, Act.put, setIfInBounds_toArray, set_cons_zero, set_cons_succ]) (hCont (gb484) _ ⟨hHeld, zz9, zz10, zz21, GW484.out, GE484.out, NB479_484.out, NB484_479.out, NB480_484.out, NB484_480.out, zz3⟩)
    skip
    refine box_step ?hg (N := 5) ?hd (cs := #[.string (⟨#[]⟩ : ByteArray), .string (⟨#[]⟩ : ByteArray), .slice none 0 0, .int .i64 0, .bool false, .bool false]) (t := 24) ?hr ?_; (case hd => rfl); (case hg => rfl); (case hr => exact zz29)
    intro gb484 hg w11 hbox hb
    have n_ := as10 (blk_below zz9 hb) (blk_below zz10 hb) (below_step zz23 hb) hbox (gs w hg zz23) (gs w hg zz23) (nl hg zz9) (ng hg zz9) (nl hg zz10) (ng hg zz10)
    clear BK479 BK480 HB
    obtain ⟨BK479, BK480, HB, BK484, GW484, GE484, NB479_484, NB484_479, NB480_484, NB484_480⟩ := n_
    clear hb hbox hg
    refine hK.out _ _ ⟨(blk_cell BK479.out 0).trans rfl, (blk_cell BK479.out 1).trans rfl, (blk_cell BK479.out 2).trans rfl, (blk_cell BK479.out 3).trans rfl, (blk_cell BK479.out 4).trans rfl, (blk_cell BK479.out 5).trans rfl⟩ (fun hHeld => ?_)
    clear hK K
    refine norm_ (a' := ?_) ?_ ?_
    rotate_left
    ·show Act.put _ (some 5) _ = _
     simp only [Act.put, setIfInBounds_toArray, set_cons_zero, set_cons_succ, i64_w, i32_w]
     rfl
    refine oz 9 (some 17) (fun K hK => ?_)
    refine gO Tryz.func15 #[.int .i64 a0_3, .int .i64 4] ?_
    with_reducible refine (cardexplay_mod.calls a0_3 4 t483 _ A5.out).mono ?_
    rintro e w' ⟨rfl, ⟨nd, rfl⟩⟩
    refine ⟨_, rfl, ?_⟩
    refine hK.out _ _ ⟨(blk_cell BK479.out 0).trans rfl, (blk_cell BK479.out 1).trans rfl, (blk_cell BK479.out 2).trans rfl, (blk_cell BK479.out 3).trans rfl, (blk_cell BK479.out 4).trans rfl, (blk_cell BK479.out 5).trans rfl⟩ (fun hHeld => ?_)
    clear hK K
    refine norm_ (a' := ?_) ?_ ?_
    rotate_left
    ·show Act.put _ (some 17) _ = _
     simp only [Act.put, setIfInBounds_toArray, set_cons_zero, set_cons_succ, i64_w, i32_w]
     rfl
    refine pz 10 (some 18) ?_
    exact norm_ (by simp only [putAll, Act.put, setIfInBounds_toArray, set_cons_zero, set_cons_succ]) (hCont (gb484) _ ⟨hHeld, zz9, zz10, zz21, GW484.out, GE484.out, NB479_484.out, NB484_479.out, NB480_484.out, NB484_480.out, zz3⟩)
   skip
   refine box_step ?hg (N := 5) ?hd (cs := #[.string (⟨#[]⟩ : ByteArray), .string (⟨#[]⟩ : ByteArray), .slice none 0 0, .int .i64 0, .bool false, .bool false]) (t := 24) ?hr ?_; (case hd => rfl); (case hg => rfl); (case hr => exact zz29)
   intro gb484 hg w10 hbox hb
   have n_ := as10 (blk_below zz9 hb) (blk_below zz10 hb) (below_step zz23 hb) hbox (gs w hg zz23) (gs w hg zz23) (nl hg zz9) (ng hg zz9) (nl hg zz10) (ng hg zz10)
   clear BK479 BK480 HB
   obtain ⟨BK479, BK480, HB, BK484, GW484, GE484, NB479_484, NB484_479, NB480_484, NB484_480⟩ := n_
   clear hb hbox hg
   refine hK.out _ _ ⟨(blk_cell BK479.out 0).trans rfl, (blk_cell BK479.out 1).trans rfl, (blk_cell BK479.out 2).trans rfl, (blk_cell BK479.out 3).trans rfl, (blk_cell BK479.out 4).trans rfl, (blk_cell BK479.out 5).trans rfl⟩ (fun hHeld => ?_)
   clear hK K
   refine norm_ (a' := ?_) ?_ ?_
   rotate_left
   ·show Act.put _ (some 5) _ = _
    simp only [Act.put, setIfInBounds_toArray, set_cons_zero, set_cons_succ, i64_w, i32_w]
    rfl
   refine oz 6 (some 14) (fun K hK => ?_)
   refine gO Tryz.func14 #[.string a0_1, .int .i64 100] ?_
   with_reducible refine (cardexplay_Line.calls k a0_1 100 t482 _ A4.out).mono ?_
   rintro e w11 ⟨rfl, hb⟩
   refine ⟨_, rfl, ?_⟩
   have n_ := as4 (blk_below zz9 hb) (blk_below zz10 hb) (blk_below zz21 hb) (below_step zz3 hb)
   clear BK479 BK480 BK484 HB
   obtain ⟨BK479, BK480, BK484, HB⟩ := n_
   (try clear hb)
   refine hK.out _ _ ⟨(blk_cell BK479.out 0).trans rfl, (blk_cell BK479.out 1).trans rfl, (blk_cell BK479.out 2).trans rfl, (blk_cell BK479.out 3).trans rfl, (blk_cell BK479.out 4).trans rfl, (blk_cell BK479.out 5).trans rfl⟩ (fun hHeld => ?_)
   clear hK K
   refine norm_ (a' := ?_) ?_ ?_
   rotate_left
   ·show Act.put _ (some 14) _ = _
    simp only [Act.put, setIfInBounds_toArray, set_cons_zero, set_cons_succ, i64_w, i32_w]
    rfl
   refine oz 9 (some 17) (fun K hK => ?_)
   refine gO Tryz.func15 #[.int .i64 a0_3, .int .i64 4] ?_
   with_reducible refine (cardexplay_mod.calls a0_3 4 t483 _ A5.out).mono ?_
   rintro e w' ⟨rfl, ⟨nd, rfl⟩⟩
   refine ⟨_, rfl, ?_⟩
   refine hK.out _ _ ⟨(blk_cell BK479.out 0).trans rfl, (blk_cell BK479.out 1).trans rfl, (blk_cell BK479.out 2).trans rfl, (blk_cell BK479.out 3).trans rfl, (blk_cell BK479.out 4).trans rfl, (blk_cell BK479.out 5).trans rfl⟩ (fun hHeld => ?_)
   clear hK K
   refine norm_ (a' := ?_) ?_ ?_
   rotate_left
   ·show Act.put _ (some 17) _ = _
    simp only [Act.put, setIfInBounds_toArray, set_cons_zero, set_cons_succ, i64_w, i32_w]
    rfl
   refine pz 10 (some 18) ?_
   exact norm_ (by simp only [putAll, Act.put, setIfInBounds_toArray, set_cons_zero, set_cons_succ]) (hCont (gb484) _ ⟨hHeld, zz9, zz10, zz21, GW484.out, GE484.out, NB479_484.out, NB484_479.out, NB480_484.out, NB484_480.out, zz3⟩)
  skip
  refine box_step ?hg (N := 5) ?hd (cs := #[.string (⟨#[]⟩ : ByteArray), .string (⟨#[]⟩ : ByteArray), .slice none 0 0, .int .i64 0, .bool false, .bool false]) (t := 24) ?hr ?_; (case hd => rfl); (case hg => rfl); (case hr => exact zz29)
  intro gb484 hg w9 hbox hb
  have n_ := as10 (blk_below zz9 hb) (blk_below zz10 hb) (below_step zz23 hb) hbox (gs w hg zz23) (gs w hg zz23) (nl hg zz9) (ng hg zz9) (nl hg zz10) (ng hg zz10)
  clear BK479 BK480 HB
  obtain ⟨BK479, BK480, HB, BK484, GW484, GE484, NB479_484, NB484_479, NB480_484, NB484_480⟩ := n_
  clear hb hbox hg
  refine hK.out _ _ ⟨(blk_cell BK479.out 0).trans rfl, (blk_cell BK479.out 1).trans rfl, (blk_cell BK479.out 2).trans rfl, (blk_cell BK479.out 3).trans rfl, (blk_cell BK479.out 4).trans rfl, (blk_cell BK479.out 5).trans rfl⟩ (fun hHeld => ?_)
  clear hK K
  refine norm_ (a' := ?_) ?_ ?_
  rotate_left
  ·show Act.put _ (some 5) _ = _
   simp only [Act.put, setIfInBounds_toArray, set_cons_zero, set_cons_succ, i64_w, i32_w]
   rfl
  refine oz 3 (some 11) (fun K hK => ?_)
  refine gO Tryz.func13 #[.string a0_0, .int .i64 a1] ?_
  with_reducible refine (cardexplay_Jid.calls k a0_0 a1 t481 _ A3.out).mono ?_
  rintro e w10 ⟨rfl, hb⟩
  refine ⟨_, rfl, ?_⟩
  have n_ := as4 (blk_below zz9 hb) (blk_below zz10 hb) (blk_below zz21 hb) (below_step zz3 hb)
  clear BK479 BK480 BK484 HB
  obtain ⟨BK479, BK480, BK484, HB⟩ := n_
  (try clear hb)
  refine hK.out _ _ ⟨(blk_cell BK479.out 0).trans rfl, (blk_cell BK479.out 1).trans rfl, (blk_cell BK479.out 2).trans rfl, (blk_cell BK479.out 3).trans rfl, (blk_cell BK479.out 4).trans rfl, (blk_cell BK479.out 5).trans rfl⟩ (fun hHeld => ?_)
  clear hK K
  refine norm_ (a' := ?_) ?_ ?_
  rotate_left
  ·show Act.put _ (some 11) _ = _
   simp only [Act.put, setIfInBounds_toArray, set_cons_zero, set_cons_succ, i64_w, i32_w]
   rfl
  refine oz 6 (some 14) (fun K hK => ?_)
  refine gO Tryz.func14 #[.string a0_1, .int .i64 100] ?_
  with_reducible refine (cardexplay_Line.calls k a0_1 100 t482 _ A4.out).mono ?_
  rintro e w11 ⟨rfl, hb⟩
  refine ⟨_, rfl, ?_⟩
  have n_ := as4 (blk_below zz9 hb) (blk_below zz10 hb) (blk_below zz21 hb) (below_step zz3 hb)
  clear BK479 BK480 BK484 HB
  obtain ⟨BK479, BK480, BK484, HB⟩ := n_
  (try clear hb)
  refine hK.out _ _ ⟨(blk_cell BK479.out 0).trans rfl, (blk_cell BK479.out 1).trans rfl, (blk_cell BK479.out 2).trans rfl, (blk_cell BK479.out 3).trans rfl, (blk_cell BK479.out 4).trans rfl, (blk_cell BK479.out 5).trans rfl⟩ (fun hHeld => ?_)
  clear hK K
  refine norm_ (a' := ?_) ?_ ?_
  rotate_left
  ·show Act.put _ (some 14) _ = _
   simp only [Act.put, setIfInBounds_toArray, set_cons_zero, set_cons_succ, i64_w, i32_w]
   rfl
  refine oz 9 (some 17) (fun K hK => ?_)
  refine gO Tryz.func15 #[.int .i64 a0_3, .int .i64 4] ?_
  with_reducible refine (cardexplay_mod.calls a0_3 4 t483 _ A5.out).mono ?_
  rintro e w' ⟨rfl, ⟨nd, rfl⟩⟩
  refine ⟨_, rfl, ?_⟩
  refine hK.out _ _ ⟨(blk_cell BK479.out 0).trans rfl, (blk_cell BK479.out 1).trans rfl, (blk_cell BK479.out 2).trans rfl, (blk_cell BK479.out 3).trans rfl, (blk_cell BK479.out 4).trans rfl, (blk_cell BK479.out 5).trans rfl⟩ (fun hHeld => ?_)
  clear hK K
  refine norm_ (a' := ?_) ?_ ?_
  rotate_left
  ·show Act.put _ (some 17) _ = _
   simp only [Act.put, setIfInBounds_toArray, set_cons_zero, set_cons_succ, i64_w, i32_w]
   rfl
  refine pz 10 (some 18) ?_
  exact norm_ (by simp only [putAll, Act.put, setIfInBounds_toArray, set_cons_zero, set_cons_succ]) (hCont (gb484) _ ⟨hHeld, zz9, zz10, zz21, GW484.out, GE484.out, NB479_484.out, NB484_479.out, NB480_484.out, NB484_480.out, zz3⟩)
 rintro gb484 w12 ⟨hS_, h0_, h1_, h2_, h3_, h4_, h5_, h6_, h7_, h8_, h9_⟩
 have n0_ : Aside0 (w12.heap[gb479]? = some (.cells #[.string a0_0, .string a0_1, .slice A0_2 l0_2.length c0_2, .int .i64 a0_3, .bool a0_4, .bool a0_5] 24 (0, 0))) := ⟨h0_⟩
 have n1_ : Aside0 (w12.heap[gb480]? = some (.cells #[.string (⟨#[]⟩ : ByteArray), .string (⟨#[]⟩ : ByteArray), .slice none 0 0, .int .i64 0, .bool false, .bool false] 24 (0, 0))) := ⟨h1_⟩
 have n2_ : Aside0 (w12.heap[gb484]? = some (.cells #[.string (⟨#[]⟩ : ByteArray), .string (⟨#[]⟩ : ByteArray), .slice none 0 0, .int .i64 0, .bool false, .bool false] 24 (0, 0))) := ⟨h2_⟩
 have n3_ : Aside0 (w.heap.size ≤ gb484) := ⟨h3_⟩
 have n4_ : Aside0 (w.heap.size ≤ gb484) := ⟨h4_⟩
 have n5_ : Aside0 (gb479 ≠ gb484) := ⟨h5_⟩
 have n6_ : Aside0 (gb484 ≠ gb479) := ⟨h6_⟩
 have n7_ : Aside0 (gb480 ≠ gb484) := ⟨h7_⟩
 have n8_ : Aside0 (gb484 ≠ gb480) := ⟨h8_⟩
 have n9_ : Aside0 (Below w.heap.size w w12) := ⟨h9_⟩
 clear BK479
 clear BK480
 clear HB
 clear h0_ h1_ h2_ h3_ h4_ h5_ h6_ h7_ h8_ h9_
 have BK479 := n0_
 have BK480 := n1_
 have BK484 := n2_
 have GW484 := n3_
 have GE484 := n4_
 have NB479_484 := n5_
 have NB484_479 := n6_
 have NB480_484 := n7_
 have NB484_480 := n8_
 have HB := n9_
 clear n0_ n1_ n2_ n3_ n4_ n5_ n6_ n7_ n8_ n9_
 have hHeld : w12.cell? ⟨gb479, 0, none⟩ = some (.string a0_0) ∧ w12.cell? ⟨gb479, 1, none⟩ = some (.string a0_1) ∧ w12.cell? ⟨gb479, 2, none⟩ = some (.slice A0_2 l0_2.length c0_2) ∧ w12.cell? ⟨gb479, 3, none⟩ = some (.int .i64 a0_3) ∧ w12.cell? ⟨gb479, 4, none⟩ = some (.bool a0_4) ∧ w12.cell? ⟨gb479, 5, none⟩ = some (.bool a0_5) := hS_
 refine norm_ (a' := ?_) ?_ ?_
 rotate_left
 ·simp only [putAll, Act.put, setIfInBounds_toArray, set_cons_zero, set_cons_succ]
  rfl
 refine oz 12 none (fun K hK => ?_)
 have hs13 : w12.cell? ⟨gb484, 0, none⟩ = some (.string (⟨#[]⟩ : ByteArray)) := (blk_cell BK484.out 0).trans rfl
 have hfs13 := blk_frozen BK484.out 0
 have hns13_0 := NB479_484.out
 have hns13_1 := NB480_484.out
 have hms13_0 := NB484_479.out
 have hms13_1 := NB484_480.out
 have hs14 : w12.cell? ⟨gb484, 1, none⟩ = some (.string (⟨#[]⟩ : ByteArray)) := (blk_cell BK484.out 1).trans rfl
 have hfs14 := blk_frozen BK484.out 1
 have hns14_0 := NB479_484.out
 have hns14_1 := NB480_484.out
 have hms14_0 := NB484_479.out
 have hms14_1 := NB484_480.out
 have hs15 : w12.cell? ⟨gb484, 2, none⟩ = some (.slice none 0 0) := (blk_cell BK484.out 2).trans rfl
 have hfs15 := blk_frozen BK484.out 2
 have hns15_0 := NB479_484.out
 have hns15_1 := NB480_484.out
 have hms15_0 := NB484_479.out
 have hms15_1 := NB484_480.out
 have hs16 : w12.cell? ⟨gb484, 3, none⟩ = some (.int .i64 0) := (blk_cell BK484.out 3).trans rfl
 have hfs16 := blk_frozen BK484.out 3
 have hns16_0 := NB479_484.out
 have hns16_1 := NB480_484.out
 have hms16_0 := NB484_479.out
 have hms16_1 := NB484_480.out
 have hs17 : w12.cell? ⟨gb484, 4, none⟩ = some (.bool false) := (blk_cell BK484.out 4).trans rfl
 have hfs17 := blk_frozen BK484.out 4
 have hns17_0 := NB479_484.out
 have hns17_1 := NB480_484.out
 have hms17_0 := NB484_479.out
 have hms17_1 := NB484_480.out
 have hs18 : w12.cell? ⟨gb484, 5, none⟩ = some (.bool false) := (blk_cell BK484.out 5).trans rfl
 have hfs18 := blk_frozen BK484.out 5
 have hns18_0 := NB479_484.out
 have hns18_1 := NB480_484.out
 have hms18_0 := NB484_479.out
 have hms18_1 := NB484_480.out
 refine skip_ (w1 := ?_) (by rfl) rfl ?_ ?_
 rotate_left
 ·go_simp
  rfl
 refine hK.out _ _ ⟨((cell_far (p := ⟨gb484, _, none⟩) NB479_484.out _).trans (((cell_far (p := ⟨gb484, _, none⟩) NB479_484.out _).trans (((cell_far (p := ⟨gb484, _, none⟩) NB479_484.out _).trans (((cell_far (p := ⟨gb484, _, none⟩) NB479_484.out _).trans (((cell_far (p := ⟨gb484, _, none⟩) NB479_484.out _).trans (((cell_far (p := ⟨gb484, _, none⟩) NB479_484.out _).trans (hHeld.1)))))))))))), ((cell_far (p := ⟨gb484, _, none⟩) NB479_484.out _).trans (((cell_far (p := ⟨gb484, _, none⟩) NB479_484.out _).trans (((cell_far (p := ⟨gb484, _, none⟩) NB479_484.out _).trans (((cell_far (p := ⟨gb484, _, none⟩) NB479_484.out _).trans (((cell_far (p := ⟨gb484, _, none⟩) NB479_484.out _).trans (((cell_far (p := ⟨gb484, _, none⟩) NB479_484.out _).trans (hHeld.2.1)))))))))))), ((cell_far (p := ⟨gb484, _, none⟩) NB479_484.out _).trans (((cell_far (p := ⟨gb484, _, none⟩) NB479_484.out _).trans (((cell_far (p := ⟨gb484, _, none⟩) NB479_484.out _).trans (((cell_far (p := ⟨gb484, _, none⟩) NB479_484.out _).trans (((cell_far (p := ⟨gb484, _, none⟩) NB479_484.out _).trans (((cell_far (p := ⟨gb484, _, none⟩) NB479_484.out _).trans (hHeld.2.2.1)))))))))))), ((cell_far (p := ⟨gb484, _, none⟩) NB479_484.out _).trans (((cell_far (p := ⟨gb484, _, none⟩) NB479_484.out _).trans (((cell_far (p := ⟨gb484, _, none⟩) NB479_484.out _).trans (((cell_far (p := ⟨gb484, _, none⟩) NB479_484.out _).trans (((cell_far (p := ⟨gb484, _, none⟩) NB479_484.out _).trans (((cell_far (p := ⟨gb484, _, none⟩) NB479_484.out _).trans (hHeld.2.2.2.1)))))))))))), ((cell_far (p := ⟨gb484, _, none⟩) NB479_484.out _).trans (((cell_far (p := ⟨gb484, _, none⟩) NB479_484.out _).trans (((cell_far (p := ⟨gb484, _, none⟩) NB479_484.out _).trans (((cell_far (p := ⟨gb484, _, none⟩) NB479_484.out _).trans (((cell_far (p := ⟨gb484, _, none⟩) NB479_484.out _).trans (((cell_far (p := ⟨gb484, _, none⟩) NB479_484.out _).trans (hHeld.2.2.2.2.1)))))))))))), ((cell_far (p := ⟨gb484, _, none⟩) NB479_484.out _).trans (((cell_far (p := ⟨gb484, _, none⟩) NB479_484.out _).trans (((cell_far (p := ⟨gb484, _, none⟩) NB479_484.out _).trans (((cell_far (p := ⟨gb484, _, none⟩) NB479_484.out _).trans (((cell_far (p := ⟨gb484, _, none⟩) NB479_484.out _).trans (((cell_far (p := ⟨gb484, _, none⟩) NB479_484.out _).trans (hHeld.2.2.2.2.2))))))))))))⟩ (fun hHeld => ?_)
 clear hK K
 refine done_ (done_of HT_.out zz34) ?_
 try go_wp2
 go_loopg [6, 7] k (fun kq v6 v7 w' => ∃ (x6_1 : List ByteArray) (x7_1 : Int), v7 = .int .i64 x7_1 ∧ Aside0 (cardexplay_Item.l0 kq x6_1 x7_1 a0_0 a0_1 l0_2 a0_3 a0_4 a0_5 t481 t482 t483 false false = some (r1, r2, r3, r4, r5, r6)) ∧ Aside0 (kq ≤ k) ∧ Aside0 (Kd.R Kd.string 9 w' w.heap.size (fun _ => True) v6 x6_1) ∧ Aside0 (w'.heap[gb479]? = some (.cells #[.string a0_0, .string a0_1, (.slice A0_2 l0_2.length c0_2), .int .i64 a0_3, .bool a0_4, .bool a0_5] 24 (0, 0))) ∧ Aside0 (w'.heap[gb480]? = some (.cells #[.string (⟨#[]⟩ : ByteArray), .string (⟨#[]⟩ : ByteArray), (.slice none 0 0), .int .i64 0, .bool false, .bool false] 24 (0, 0))) ∧ Aside0 (w'.heap[gb484]? = some (.cells #[.string t481, .string t482, (.slice none 0 0), .int .i64 t483, .bool false, .bool false] 24 (0, 0))) ∧ Aside0 (Below w.heap.size w w'))
 case atStart => exact ⟨(([] : List ByteArray)), (0), zz1, H', ⟨Nat.le_refl _⟩, ⟨zz46⟩, ⟨by (with_reducible repeat (first | refine blk_drewN ?_ _ | refine blk_drew ?_ | refine blk_alloc ?_ _)); refine blk_far ?_ NB479_484.out _; (with_reducible repeat (first | refine blk_drewN ?_ _ | refine blk_drew ?_ | refine blk_alloc ?_ _)); refine blk_far ?_ NB479_484.out _; (with_reducible repeat (first | refine blk_drewN ?_ _ | refine blk_drew ?_ | refine blk_alloc ?_ _)); refine blk_far ?_ NB479_484.out _; (with_reducible repeat (first | refine blk_drewN ?_ _ | refine blk_drew ?_ | refine blk_alloc ?_ _)); refine blk_far ?_ NB479_484.out _; (with_reducible repeat (first | refine blk_drewN ?_ _ | refine blk_drew ?_ | refine blk_alloc ?_ _)); refine blk_far ?_ NB479_484.out _; (with_reducible repeat (first | refine blk_drewN ?_ _ | refine blk_drew ?_ | refine blk_alloc ?_ _)); refine blk_far ?_ NB479_484.out _; (with_reducible repeat (first | refine blk_drewN ?_ _ | refine blk_drew ?_ | refine blk_alloc ?_ _)); exact BK479.out⟩, ⟨by (with_reducible repeat (first | refine blk_drewN ?_ _ | refine blk_drew ?_ | refine blk_alloc ?_ _)); refine blk_far ?_ NB480_484.out _; (with_reducible repeat (first | refine blk_drewN ?_ _ | refine blk_drew ?_ | refine blk_alloc ?_ _)); refine blk_far ?_ NB480_484.out _; (with_reducible repeat (first | refine blk_drewN ?_ _ | refine blk_drew ?_ | refine blk_alloc ?_ _)); refine blk_far ?_ NB480_484.out _; (with_reducible repeat (first | refine blk_drewN ?_ _ | refine blk_drew ?_ | refine blk_alloc ?_ _)); refine blk_far ?_ NB480_484.out _; (with_reducible repeat (first | refine blk_drewN ?_ _ | refine blk_drew ?_ | refine blk_alloc ?_ _)); refine blk_far ?_ NB480_484.out _; (with_reducible repeat (first | refine blk_drewN ?_ _ | refine blk_drew ?_ | refine blk_alloc ?_ _)); refine blk_far ?_ NB480_484.out _; (with_reducible repeat (first | refine blk_drewN ?_ _ | refine blk_drew ?_ | refine blk_alloc ?_ _)); exact BK480.out⟩, ⟨by (with_reducible repeat (first | refine blk_drewN ?_ _ | refine blk_drew ?_ | refine blk_alloc ?_ _)); refine blk_put (cs := #[.string t481, .string t482, .slice none 0 0, .int .i64 t483, .bool false, .bool false]) ?_ 5 _ rfl; (with_reducible repeat (first | refine blk_drewN ?_ _ | refine blk_drew ?_ | refine blk_alloc ?_ _)); refine blk_put (cs := #[.string t481, .string t482, .slice none 0 0, .int .i64 t483, .bool false, .bool false]) ?_ 4 _ rfl; (with_reducible repeat (first | refine blk_drewN ?_ _ | refine blk_drew ?_ | refine blk_alloc ?_ _)); refine blk_put (cs := #[.string t481, .string t482, .slice none 0 0, .int .i64 0, .bool false, .bool false]) ?_ 3 _ rfl; (with_reducible repeat (first | refine blk_drewN ?_ _ | refine blk_drew ?_ | refine blk_alloc ?_ _)); refine blk_put (cs := #[.string t481, .string t482, .slice none 0 0, .int .i64 0, .bool false, .bool false]) ?_ 2 _ rfl; (with_reducible repeat (first | refine blk_drewN ?_ _ | refine blk_drew ?_ | refine blk_alloc ?_ _)); refine blk_put (cs := #[.string t481, .string (⟨#[]⟩ : ByteArray), .slice none 0 0, .int .i64 0, .bool false, .bool false]) ?_ 1 _ rfl; (with_reducible repeat (first | refine blk_drewN ?_ _ | refine blk_drew ?_ | refine blk_alloc ?_ _)); refine blk_put (cs := #[.string (⟨#[]⟩ : ByteArray), .string (⟨#[]⟩ : ByteArray), .slice none 0 0, .int .i64 0, .bool false, .bool false]) ?_ 0 _ rfl; (with_reducible repeat (first | refine blk_drewN ?_ _ | refine blk_drew ?_ | refine blk_alloc ?_ _)); exact BK484.out⟩, ⟨zz3⟩⟩
 case round =>
  clear H'
  try clear c1
  try clear p2
  try clear c7
  try clear c13
  try clear c14
  try clear c15
  obtain ⟨x6_1, x7_1, rfl, HA, HK1, HO_6, BK479, BK480, BK484, HB⟩ := hrel
  cases gk with
  | zero => exact absurd HA.out (by simp [cardexplay_Item.l0])
  | succ k1 =>
   have H := HA.out
   clear HA
   simp only [cardexplay_Item.l0] at H
   by_cases c19 : x7_1 < (l0_2.length : Int)
   ·rw [if_pos c19] at H
    have c19b0 := decide_eq_true c19
    clear c19
    by_cases c20 : x7_1 < 4
    ·rw [if_pos c20] at H
     have c20b0 := decide_eq_true c20
     clear c20
     by_cases c21 : 0 ≤ x7_1
     ·rw [if_pos c21] at H
      have c21b0 := decide_eq_true c21
      clear c21
      replace H := Option.bind_eq_some_iff.mp H
      obtain ⟨t486, A220, H⟩ := H
      try dsimp only at H
      have A22 := Aside0.mk A220
      clear A220
      by_cases c23 : x6_1.length < 8796093022208
      ·rw [if_pos c23] at H
       have LMc23 := Aside0.mk c23
       clear c23
       obtain ⟨y487, hy487⟩ : ∃ y_ : List ByteArray, y_ = (x6_1 ++ [t486]) := ⟨_, rfl⟩
       replace H : (cardexplay_Item.l0 k1 y487 (wrap64 (x7_1 + 1)) a0_0 a0_1 l0_2 a0_3 a0_4 a0_5 t481 t482 t483 false false) = some (r1, r2, r3, r4, r5, r6) := by first | (rw [hy487]; with_reducible exact H) | (have H2_ := (Option.bind_some _ _).symm.trans H; rw [hy487]; with_reducible exact H2_) | (have H2_ := (Option.bind_some _ _).symm.trans H; with_reducible exact H2_) | with_reducible exact H | (rw [hy487]; exact H) | exact H
       have Ny487 := Aside0.mk hy487
       clear hy487
       have H' := Aside0.mk H
       clear H
       have hnb24 := NB479_480.out
       have hnc24 := NB480_479.out
       have hnb25 := NB479_484.out
       have hnc25 := NB484_479.out
       obtain ⟨hcz26_0, hcz26_1, hcz26_2, hcz26_3, hcz26_4, hcz26_5⟩ := cz6 BK479.out
       obtain ⟨hfz26_0, hfz26_1, hfz26_2, hfz26_3, hfz26_4, hfz26_5⟩ := fz6 BK479.out
       have p485 : 0 ≤ (x7_1 : Int) := of_decide_eq_true zz6
       have q485 : x7_1 < (l0_2.length : Int) := of_decide_eq_true zz6
       obtain ⟨ad485, e485, hx485_0⟩ := Kd.at_string HR0_2.out x7_1 p485 q485
       cases e485
       replace hx485_0 := hereB HB hx485_0
       replace p485 := eq_true p485
       replace q485 := eq_true q485
       go_wp2_with (first | ((with_reducible refine gc 14 ?_); refine gL (some 36) Tryz.func14 #[.string (rdOf ByteArray.empty l0_2 x7_1), .int .i64 30] ?_; (with_reducible refine (cardexplay_Line.calls k1 (rdOf ByteArray.empty l0_2 x7_1) 30 t486 _ A22.out).mono ?_); rintro e w27 ⟨rfl, hb⟩; refine ⟨_, rfl, ?_⟩; have n_ := as5 (Kd.R_below zz12 hb) (blk_below zz9 hb) (blk_below zz10 hb) (blk_below zz21 hb) (below_step zz3 hb); clear HO_6 BK479 BK480 BK484 HB; obtain ⟨HO_6, BK479, BK480, BK484, HB⟩ := n_; (try clear hb)) | ((with_reducible refine gate_builtin (b := .append) (xs := #[.tmp 30, .tmp 37]) rfl ?_); at_builtin; refine Kd.R_append Kd.string (w0 := w) w.heap.size rfl (.tmp 30) (.tmp 37) 22 9 (.string ⟨#[]⟩) 16 rfl Tryz.underlying22 info9 rfl (by decide) (by omega) u6 x6_1 t486 [.string t486] (fun _ => True) (fun _ => False) rfl rfl ?aP (fun _ hk => hk.elim) ?aF ?aO ?aB ?aS ?aL ?_; (case aP => exact rfl); (case aB => exact zz3); (case aF => exact (fun _ _ => trivial)); (case aO => exact zz12); (case aS => exact (below_size zz3)); (case aL => have := LMc23.out; omega); intro v488 w28 ho hb hg hat; rw [← Ny487.out] at ho; have n_ := as5 (blk_grown (g := gb479) (o := .cells #[.string a0_0, .string a0_1, .slice (some ad485) l0_2.length c0_2, .int .i64 a0_3, .bool a0_4, .bool a0_5] 24 (0, 0)) zz9 hg (Kd.R_ne HO_6.out BK479.out (by decide))) (blk_grown (g := gb480) (o := .cells #[.string (⟨#[]⟩ : ByteArray), .string (⟨#[]⟩ : ByteArray), .slice none 0 0, .int .i64 0, .bool false, .bool false] 24 (0, 0)) zz10 hg (Kd.R_ne HO_6.out BK480.out (by decide))) (blk_grown (g := gb484) (o := .cells #[.string t481, .string t482, .slice none 0 0, .int .i64 t483, .bool false, .bool false] 24 (0, 0)) zz21 hg (Kd.R_ne HO_6.out BK484.out (by decide))) hb ho; clear BK479 BK480 BK484 HB HO_6; obtain ⟨BK479, BK480, BK484, HB, HO489⟩ := n_; clear ho hb hg hat))
       go_roundg k1
       case measure => have := HK1.out; omega
       case rel => exact ⟨(y487), (wrap64 (x7_1 + 1)), zz1, H', ⟨zz58⟩, ⟨by (with_reducible repeat (first | apply Kd.R_alloc | apply Kd.R_drewN | apply Kd.R_drew)); exact HO489.out⟩, ⟨zz9⟩, ⟨zz10⟩, ⟨zz21⟩, ⟨zz3⟩⟩
      rw [if_neg c23] at H
      exact absurd H (by simp)
     rw [if_neg c21] at H
     exact absurd H (by simp)
    rw [if_neg c20] at H
    have c20b0 := decide_eq_false c20
    clear c20
    replace H := Option.bind_eq_some_iff.mp H
    obtain ⟨t490, A290, H⟩ := H
    try dsimp only at H
    have A29 := Aside0.mk A290
    clear A290
    by_cases c30 : a0_4 = true
    ·subst c30
     have H1 : (if t483 = 0 then (if a0_5 = true then (some (t481, t482, t490, t483, true, true)) else (some (t481, t482, t490, t483, true, false))) else (if a0_5 = true then (some (t481, t482, t490, t483, (t483 == 2), (t483 == 1))) else (some (t481, t482, t490, t483, (t483 == 2), false)))) = some (r1, r2, r3, r4, r5, r6) := by rw [if_pos rfl] at H; exact H
     clear H
     have H := H1
     clear H1
     by_cases c31 : t483 = 0
     ·rw [if_pos c31] at H
      obtain ⟨c31b0, c31b1⟩ := eqT c31
      clear c31
      by_cases c32 : a0_5 = true
      ·subst c32
       have H1 : (some (t481, t482, t490, t483, true, true)) = some (r1, r2, r3, r4, r5, r6) := by rw [if_pos rfl] at H; exact H
       clear H
       have H := H1
       clear H1
       simp only [Option.some.injEq, Prod.mk.injEq] at H
       obtain ⟨rfl, rfl, rfl, rfl, rfl, rfl⟩ := H
       have hnb33 := NB479_480.out
       have hnc33 := NB480_479.out
       have hnb34 := NB479_484.out
       have hnc34 := NB484_479.out
       obtain ⟨hcz35_0, hcz35_1, hcz35_2, hcz35_3, hcz35_4, hcz35_5⟩ := cz6 BK479.out
       obtain ⟨hfz35_0, hfz35_1, hfz35_2, hfz35_3, hfz35_4, hfz35_5⟩ := fz6 BK479.out
       obtain ⟨Ao36, co36, eo36⟩ := Kd.R_slice HO_6.out
       subst eo36
       go_wp2_with (first | ((with_reducible refine gc 16 ?_); refine gL (some 40) Tryz.func16 #[.slice Ao36 x6_1.length co36] ?_; (with_reducible refine (cardexref08_Groups.calls _ _ x6_1 t490 _ ?side1 ?side2 A29.out).mono ?_); (case side1 => exact zz19); (case side2 => exact (Kd.R_reads' HO_6.out).2.1); rintro e w37 ⟨v491, rfl, ho0, hb⟩; refine ⟨_, rfl, ?_⟩; have n_ := as6 (Kd.R_elder' zz12 (Kd.R_base ho0) hb) (Kd.R_lower (Kd.R_new' ho0 (Kd.R_lt zz12)) (below_size zz3)) (blk_below zz9 hb) (blk_below zz10 hb) (blk_below zz21 hb) (below_step zz3 hb); clear HO_6 BK479 BK480 BK484 HB; obtain ⟨HO_6, HO492, BK479, BK480, BK484, HB⟩ := n_; (try clear hb ho0); obtain ⟨Ao38, co38, eo38⟩ := Kd.R_slice HO492.out; subst eo38; have hnb39 := NB484_480.out; have hnc39 := NB480_484.out; obtain ⟨hcz40_0, hcz40_1, hcz40_2, hcz40_3, hcz40_4, hcz40_5⟩ := cz6 BK484.out; obtain ⟨hfz40_0, hfz40_1, hfz40_2, hfz40_3, hfz40_4, hfz40_5⟩ := fz6 BK484.out; obtain ⟨hcz41_0, hcz41_1, hcz41_2, hcz41_3, hcz41_4, hcz41_5⟩ := cz6 BK479.out; obtain ⟨hfz41_0, hfz41_1, hfz41_2, hfz41_3, hfz41_4, hfz41_5⟩ := fz6 BK479.out; obtain ⟨hcz42_0, hcz42_1, hcz42_2, hcz42_3, hcz42_4, hcz42_5⟩ := cz6 BK480.out; obtain ⟨hfz42_0, hfz42_1, hfz42_2, hfz42_3, hfz42_4, hfz42_5⟩ := fz6 BK480.out))
       refine bodyPost_ret (results_cell_row rfl _ _ gb480 24 #[.string t481, .string t482, .slice Ao38 t490.length co38, .int .i64 t483, .bool true, .bool true] (0, 0) _ rfl (by (with_reducible repeat (first | refine blk_drewN ?_ _ | refine blk_drew ?_ | refine blk_alloc ?_ _)); refine blk_put (cs := #[.string t481, .string t482, .slice Ao38 t490.length co38, .int .i64 t483, .bool true, .bool false]) ?_ 5 _ rfl; (with_reducible repeat (first | refine blk_drewN ?_ _ | refine blk_drew ?_ | refine blk_alloc ?_ _)); refine blk_put (cs := #[.string t481, .string t482, .slice Ao38 t490.length co38, .int .i64 t483, .bool false, .bool false]) ?_ 4 _ rfl; (with_reducible repeat (first | refine blk_drewN ?_ _ | refine blk_drew ?_ | refine blk_alloc ?_ _)); refine blk_put (cs := #[.string t481, .string t482, .slice Ao38 t490.length co38, .int .i64 0, .bool false, .bool false]) ?_ 3 _ rfl; (with_reducible repeat (first | refine blk_drewN ?_ _ | refine blk_drew ?_ | refine blk_alloc ?_ _)); refine blk_put (cs := #[.string t481, .string t482, .slice none 0 0, .int .i64 0, .bool false, .bool false]) ?_ 2 _ rfl; (with_reducible repeat (first | refine blk_drewN ?_ _ | refine blk_drew ?_ | refine blk_alloc ?_ _)); refine blk_put (cs := #[.string t481, .string (⟨#[]⟩ : ByteArray), .slice none 0 0, .int .i64 0, .bool false, .bool false]) ?_ 1 _ rfl; (with_reducible repeat (first | refine blk_drewN ?_ _ | refine blk_drew ?_ | refine blk_alloc ?_ _)); refine blk_put (cs := #[.string (⟨#[]⟩ : ByteArray), .string (⟨#[]⟩ : ByteArray), .slice none 0 0, .int .i64 0, .bool false, .bool false]) ?_ 0 _ rfl; (with_reducible repeat (first | refine blk_drewN ?_ _ | refine blk_drew ?_ | refine blk_alloc ?_ _)); refine blk_far ?_ NB480_484.out _; (with_reducible repeat (first | refine blk_drewN ?_ _ | refine blk_drew ?_ | refine blk_alloc ?_ _)); refine blk_far ?_ NB480_484.out _; (with_reducible repeat (first | refine blk_drewN ?_ _ | refine blk_drew ?_ | refine blk_alloc ?_ _)); refine blk_far ?_ NB480_484.out _; (with_reducible repeat (first | refine blk_drewN ?_ _ | refine blk_drew ?_ | refine blk_alloc ?_ _)); exact BK480.out) Tryz.underlying24 rfl zz34) rfl ?_
       exact ⟨_, zz4, by (with_reducible repeat (first | apply Kd.R_alloc | apply Kd.R_drewN | apply Kd.R_drew)); exact Kd.R_mono (Kd.R_far (p := ⟨gb480, 5, none⟩) (Kd.R_far (p := ⟨gb480, 4, none⟩) (Kd.R_far (p := ⟨gb480, 3, none⟩) (Kd.R_far (p := ⟨gb480, 2, none⟩) (Kd.R_far (p := ⟨gb480, 1, none⟩) (Kd.R_far (p := ⟨gb480, 0, none⟩) (Kd.R_far (p := ⟨gb484, 5, none⟩) (Kd.R_far (p := ⟨gb484, 4, none⟩) (Kd.R_far (p := ⟨gb484, 2, none⟩) (Kd.R_types (Kd.R_types HO492.out BK484.out (by decide)) BK480.out (by decide)) (fun _ hk => hk.1.2) (.slice Ao38 t490.length co38)) (fun _ hk => hk.1.2) (.bool true)) (fun _ hk => hk.1.2) (.bool true)) (fun _ hk => hk.2) (.string t481)) (fun _ hk => hk.2) (.string t482)) (fun _ hk => hk.2) (.slice Ao38 t490.length co38)) (fun _ hk => hk.2) (.int .i64 t483)) (fun _ hk => hk.2) (.bool true)) (fun _ hk => hk.2) (.bool true)) (fun _ hk => trivial), zz3⟩
      replace c32 := Bool.eq_false_iff.mpr c32
      subst c32
      have H1 : (some (t481, t482, t490, t483, true, false)) = some (r1, r2, r3, r4, r5, r6) := by rw [if_neg (show ¬ (false = true) by decide)] at H; exact H
      clear H
      have H := H1
      clear H1
      simp only [Option.some.injEq, Prod.mk.injEq] at H
      obtain ⟨rfl, rfl, rfl, rfl, rfl, rfl⟩ := H
      have hnb43 := NB479_480.out
      have hnc43 := NB480_479.out
      have hnb44 := NB479_484.out
      have hnc44 := NB484_479.out
      obtain ⟨hcz45_0, hcz45_1, hcz45_2, hcz45_3, hcz45_4, hcz45_5⟩ := cz6 BK479.out
      obtain ⟨hfz45_0, hfz45_1, hfz45_2, hfz45_3, hfz45_4, hfz45_5⟩ := fz6 BK479.out
      obtain ⟨Ao46, co46, eo46⟩ := Kd.R_slice HO_6.out
      subst eo46
      go_wp2_with (first | ((with_reducible refine gc 16 ?_); refine gL (some 40) Tryz.func16 #[.slice Ao46 x6_1.length co46] ?_; (with_reducible refine (cardexref08_Groups.calls _ _ x6_1 t490 _ ?side1 ?side2 A29.out).mono ?_); (case side1 => exact zz19); (case side2 => exact (Kd.R_reads' HO_6.out).2.1); rintro e w47 ⟨v491, rfl, ho0, hb⟩; refine ⟨_, rfl, ?_⟩; have n_ := as6 (Kd.R_elder' zz12 (Kd.R_base ho0) hb) (Kd.R_lower (Kd.R_new' ho0 (Kd.R_lt zz12)) (below_size zz3)) (blk_below zz9 hb) (blk_below zz10 hb) (blk_below zz21 hb) (below_step zz3 hb); clear HO_6 BK479 BK480 BK484 HB; obtain ⟨HO_6, HO492, BK479, BK480, BK484, HB⟩ := n_; (try clear hb ho0); obtain ⟨Ao48, co48, eo48⟩ := Kd.R_slice HO492.out; subst eo48; have hnb49 := NB484_480.out; have hnc49 := NB480_484.out; obtain ⟨hcz50_0, hcz50_1, hcz50_2, hcz50_3, hcz50_4, hcz50_5⟩ := cz6 BK484.out; obtain ⟨hfz50_0, hfz50_1, hfz50_2, hfz50_3, hfz50_4, hfz50_5⟩ := fz6 BK484.out; obtain ⟨hcz51_0, hcz51_1, hcz51_2, hcz51_3, hcz51_4, hcz51_5⟩ := cz6 BK479.out; obtain ⟨hfz51_0, hfz51_1, hfz51_2, hfz51_3, hfz51_4, hfz51_5⟩ := fz6 BK479.out; obtain ⟨hcz52_0, hcz52_1, hcz52_2, hcz52_3, hcz52_4, hcz52_5⟩ := cz6 BK480.out; obtain ⟨hfz52_0, hfz52_1, hfz52_2, hfz52_3, hfz52_4, hfz52_5⟩ := fz6 BK480.out))
      refine bodyPost_ret (results_cell_row rfl _ _ gb480 24 #[.string t481, .string t482, .slice Ao48 t490.length co48, .int .i64 t483, .bool true, .bool false] (0, 0) _ rfl (by (with_reducible repeat (first | refine blk_drewN ?_ _ | refine blk_drew ?_ | refine blk_alloc ?_ _)); refine blk_put (cs := #[.string t481, .string t482, .slice Ao48 t490.length co48, .int .i64 t483, .bool true, .bool false]) ?_ 5 _ rfl; (with_reducible repeat (first | refine blk_drewN ?_ _ | refine blk_drew ?_ | refine blk_alloc ?_ _)); refine blk_put (cs := #[.string t481, .string t482, .slice Ao48 t490.length co48, .int .i64 t483, .bool false, .bool false]) ?_ 4 _ rfl; (with_reducible repeat (first | refine blk_drewN ?_ _ | refine blk_drew ?_ | refine blk_alloc ?_ _)); refine blk_put (cs := #[.string t481, .string t482, .slice Ao48 t490.length co48, .int .i64 0, .bool false, .bool false]) ?_ 3 _ rfl; (with_reducible repeat (first | refine blk_drewN ?_ _ | refine blk_drew ?_ | refine blk_alloc ?_ _)); refine blk_put (cs := #[.string t481, .string t482, .slice none 0 0, .int .i64 0, .bool false, .bool false]) ?_ 2 _ rfl; (with_reducible repeat (first | refine blk_drewN ?_ _ | refine blk_drew ?_ | refine blk_alloc ?_ _)); refine blk_put (cs := #[.string t481, .string (⟨#[]⟩ : ByteArray), .slice none 0 0, .int .i64 0, .bool false, .bool false]) ?_ 1 _ rfl; (with_reducible repeat (first | refine blk_drewN ?_ _ | refine blk_drew ?_ | refine blk_alloc ?_ _)); refine blk_put (cs := #[.string (⟨#[]⟩ : ByteArray), .string (⟨#[]⟩ : ByteArray), .slice none 0 0, .int .i64 0, .bool false, .bool false]) ?_ 0 _ rfl; (with_reducible repeat (first | refine blk_drewN ?_ _ | refine blk_drew ?_ | refine blk_alloc ?_ _)); refine blk_far ?_ NB480_484.out _; (with_reducible repeat (first | refine blk_drewN ?_ _ | refine blk_drew ?_ | refine blk_alloc ?_ _)); refine blk_far ?_ NB480_484.out _; (with_reducible repeat (first | refine blk_drewN ?_ _ | refine blk_drew ?_ | refine blk_alloc ?_ _)); refine blk_far ?_ NB480_484.out _; (with_reducible repeat (first | refine blk_drewN ?_ _ | refine blk_drew ?_ | refine blk_alloc ?_ _)); exact BK480.out) Tryz.underlying24 rfl zz34) rfl ?_
      exact ⟨_, zz4, by (with_reducible repeat (first | apply Kd.R_alloc | apply Kd.R_drewN | apply Kd.R_drew)); exact Kd.R_mono (Kd.R_far (p := ⟨gb480, 5, none⟩) (Kd.R_far (p := ⟨gb480, 4, none⟩) (Kd.R_far (p := ⟨gb480, 3, none⟩) (Kd.R_far (p := ⟨gb480, 2, none⟩) (Kd.R_far (p := ⟨gb480, 1, none⟩) (Kd.R_far (p := ⟨gb480, 0, none⟩) (Kd.R_far (p := ⟨gb484, 5, none⟩) (Kd.R_far (p := ⟨gb484, 4, none⟩) (Kd.R_far (p := ⟨gb484, 2, none⟩) (Kd.R_types (Kd.R_types HO492.out BK484.out (by decide)) BK480.out (by decide)) (fun _ hk => hk.1.2) (.slice Ao48 t490.length co48)) (fun _ hk => hk.1.2) (.bool true)) (fun _ hk => hk.1.2) (.bool false)) (fun _ hk => hk.2) (.string t481)) (fun _ hk => hk.2) (.string t482)) (fun _ hk => hk.2) (.slice Ao48 t490.length co48)) (fun _ hk => hk.2) (.int .i64 t483)) (fun _ hk => hk.2) (.bool true)) (fun _ hk => hk.2) (.bool false)) (fun _ hk => trivial), zz3⟩
     rw [if_neg c31] at H
     obtain ⟨c31b0, c31b1⟩ := eqF c31
     by_cases c53 : a0_5 = true
     ·subst c53
      have H1 : (some (t481, t482, t490, t483, (t483 == 2), (t483 == 1))) = some (r1, r2, r3, r4, r5, r6) := by rw [if_pos rfl] at H; exact H
      clear H
      have H := H1
      clear H1
      simp only [Option.some.injEq, Prod.mk.injEq] at H
      obtain ⟨rfl, rfl, rfl, rfl, rfl, rfl⟩ := H
      have hnb54 := NB479_480.out
      have hnc54 := NB480_479.out
      have hnb55 := NB479_484.out
      have hnc55 := NB484_479.out
      obtain ⟨hcz56_0, hcz56_1, hcz56_2, hcz56_3, hcz56_4, hcz56_5⟩ := cz6 BK479.out
      obtain ⟨hfz56_0, hfz56_1, hfz56_2, hfz56_3, hfz56_4, hfz56_5⟩ := fz6 BK479.out
      obtain ⟨Ao57, co57, eo57⟩ := Kd.R_slice HO_6.out
      subst eo57
      go_wp2_with (first | ((with_reducible refine gc 16 ?_); refine gL (some 40) Tryz.func16 #[.slice Ao57 x6_1.length co57] ?_; (with_reducible refine (cardexref08_Groups.calls _ _ x6_1 t490 _ ?side1 ?side2 A29.out).mono ?_); (case side1 => exact zz19); (case side2 => exact (Kd.R_reads' HO_6.out).2.1); rintro e w58 ⟨v491, rfl, ho0, hb⟩; refine ⟨_, rfl, ?_⟩; have n_ := as6 (Kd.R_elder' zz12 (Kd.R_base ho0) hb) (Kd.R_lower (Kd.R_new' ho0 (Kd.R_lt zz12)) (below_size zz3)) (blk_below zz9 hb) (blk_below zz10 hb) (blk_below zz21 hb) (below_step zz3 hb); clear HO_6 BK479 BK480 BK484 HB; obtain ⟨HO_6, HO492, BK479, BK480, BK484, HB⟩ := n_; (try clear hb ho0); obtain ⟨Ao59, co59, eo59⟩ := Kd.R_slice HO492.out; subst eo59; have hnb60 := NB484_480.out; have hnc60 := NB480_484.out; obtain ⟨hcz61_0, hcz61_1, hcz61_2, hcz61_3, hcz61_4, hcz61_5⟩ := cz6 BK484.out; obtain ⟨hfz61_0, hfz61_1, hfz61_2, hfz61_3, hfz61_4, hfz61_5⟩ := fz6 BK484.out; obtain ⟨hcz62_0, hcz62_1, hcz62_2, hcz62_3, hcz62_4, hcz62_5⟩ := cz6 BK479.out; obtain ⟨hfz62_0, hfz62_1, hfz62_2, hfz62_3, hfz62_4, hfz62_5⟩ := fz6 BK479.out; obtain ⟨hcz63_0, hcz63_1, hcz63_2, hcz63_3, hcz63_4, hcz63_5⟩ := cz6 BK480.out; obtain ⟨hfz63_0, hfz63_1, hfz63_2, hfz63_3, hfz63_4, hfz63_5⟩ := fz6 BK480.out))
      refine bodyPost_ret (results_cell_row rfl _ _ gb480 24 #[.string t481, .string t482, .slice Ao59 t490.length co59, .int .i64 t483, .bool (t483 == 2), .bool (t483 == 1)] (0, 0) _ rfl (by (with_reducible repeat (first | refine blk_drewN ?_ _ | refine blk_drew ?_ | refine blk_alloc ?_ _)); refine blk_put (cs := #[.string t481, .string t482, .slice Ao59 t490.length co59, .int .i64 t483, .bool (t483 == 2), .bool false]) ?_ 5 _ rfl; (with_reducible repeat (first | refine blk_drewN ?_ _ | refine blk_drew ?_ | refine blk_alloc ?_ _)); refine blk_put (cs := #[.string t481, .string t482, .slice Ao59 t490.length co59, .int .i64 t483, .bool false, .bool false]) ?_ 4 _ rfl; (with_reducible repeat (first | refine blk_drewN ?_ _ | refine blk_drew ?_ | refine blk_alloc ?_ _)); refine blk_put (cs := #[.string t481, .string t482, .slice Ao59 t490.length co59, .int .i64 0, .bool false, .bool false]) ?_ 3 _ rfl; (with_reducible repeat (first | refine blk_drewN ?_ _ | refine blk_drew ?_ | refine blk_alloc ?_ _)); refine blk_put (cs := #[.string t481, .string t482, .slice none 0 0, .int .i64 0, .bool false, .bool false]) ?_ 2 _ rfl; (with_reducible repeat (first | refine blk_drewN ?_ _ | refine blk_drew ?_ | refine blk_alloc ?_ _)); refine blk_put (cs := #[.string t481, .string (⟨#[]⟩ : ByteArray), .slice none 0 0, .int .i64 0, .bool false, .bool false]) ?_ 1 _ rfl; (with_reducible repeat (first | refine blk_drewN ?_ _ | refine blk_drew ?_ | refine blk_alloc ?_ _)); refine blk_put (cs := #[.string (⟨#[]⟩ : ByteArray), .string (⟨#[]⟩ : ByteArray), .slice none 0 0, .int .i64 0, .bool false, .bool false]) ?_ 0 _ rfl; (with_reducible repeat (first | refine blk_drewN ?_ _ | refine blk_drew ?_ | refine blk_alloc ?_ _)); refine blk_far ?_ NB480_484.out _; (with_reducible repeat (first | refine blk_drewN ?_ _ | refine blk_drew ?_ | refine blk_alloc ?_ _)); refine blk_far ?_ NB480_484.out _; (with_reducible repeat (first | refine blk_drewN ?_ _ | refine blk_drew ?_ | refine blk_alloc ?_ _)); refine blk_far ?_ NB480_484.out _; (with_reducible repeat (first | refine blk_drewN ?_ _ | refine blk_drew ?_ | refine blk_alloc ?_ _)); exact BK480.out) Tryz.underlying24 rfl zz34) rfl ?_
      exact ⟨_, zz4, by (with_reducible repeat (first | apply Kd.R_alloc | apply Kd.R_drewN | apply Kd.R_drew)); exact Kd.R_mono (Kd.R_far (p := ⟨gb480, 5, none⟩) (Kd.R_far (p := ⟨gb480, 4, none⟩) (Kd.R_far (p := ⟨gb480, 3, none⟩) (Kd.R_far (p := ⟨gb480, 2, none⟩) (Kd.R_far (p := ⟨gb480, 1, none⟩) (Kd.R_far (p := ⟨gb480, 0, none⟩) (Kd.R_far (p := ⟨gb484, 5, none⟩) (Kd.R_far (p := ⟨gb484, 4, none⟩) (Kd.R_far (p := ⟨gb484, 2, none⟩) (Kd.R_types (Kd.R_types HO492.out BK484.out (by decide)) BK480.out (by decide)) (fun _ hk => hk.1.2) (.slice Ao59 t490.length co59)) (fun _ hk => hk.1.2) (.bool (t483 == 2))) (fun _ hk => hk.1.2) (.bool (t483 == 1))) (fun _ hk => hk.2) (.string t481)) (fun _ hk => hk.2) (.string t482)) (fun _ hk => hk.2) (.slice Ao59 t490.length co59)) (fun _ hk => hk.2) (.int .i64 t483)) (fun _ hk => hk.2) (.bool (t483 == 2))) (fun _ hk => hk.2) (.bool (t483 == 1))) (fun _ hk => trivial), zz3⟩
     replace c53 := Bool.eq_false_iff.mpr c53
     subst c53
     have H1 : (some (t481, t482, t490, t483, (t483 == 2), false)) = some (r1, r2, r3, r4, r5, r6) := by rw [if_neg (show ¬ (false = true) by decide)] at H; exact H
     clear H
     have H := H1
     clear H1
     simp only [Option.some.injEq, Prod.mk.injEq] at H
     obtain ⟨rfl, rfl, rfl, rfl, rfl, rfl⟩ := H
     have hnb64 := NB479_480.out
     have hnc64 := NB480_479.out
     have hnb65 := NB479_484.out
     have hnc65 := NB484_479.out
     obtain ⟨hcz66_0, hcz66_1, hcz66_2, hcz66_3, hcz66_4, hcz66_5⟩ := cz6 BK479.out
     obtain ⟨hfz66_0, hfz66_1, hfz66_2, hfz66_3, hfz66_4, hfz66_5⟩ := fz6 BK479.out
     obtain ⟨Ao67, co67, eo67⟩ := Kd.R_slice HO_6.out
     subst eo67
     go_wp2_with (first | ((with_reducible refine gc 16 ?_); refine gL (some 40) Tryz.func16 #[.slice Ao67 x6_1.length co67] ?_; (with_reducible refine (cardexref08_Groups.calls _ _ x6_1 t490 _ ?side1 ?side2 A29.out).mono ?_); (case side1 => exact zz19); (case side2 => exact (Kd.R_reads' HO_6.out).2.1); rintro e w68 ⟨v491, rfl, ho0, hb⟩; refine ⟨_, rfl, ?_⟩; have n_ := as6 (Kd.R_elder' zz12 (Kd.R_base ho0) hb) (Kd.R_lower (Kd.R_new' ho0 (Kd.R_lt zz12)) (below_size zz3)) (blk_below zz9 hb) (blk_below zz10 hb) (blk_below zz21 hb) (below_step zz3 hb); clear HO_6 BK479 BK480 BK484 HB; obtain ⟨HO_6, HO492, BK479, BK480, BK484, HB⟩ := n_; (try clear hb ho0); obtain ⟨Ao69, co69, eo69⟩ := Kd.R_slice HO492.out; subst eo69; have hnb70 := NB484_480.out; have hnc70 := NB480_484.out; obtain ⟨hcz71_0, hcz71_1, hcz71_2, hcz71_3, hcz71_4, hcz71_5⟩ := cz6 BK484.out; obtain ⟨hfz71_0, hfz71_1, hfz71_2, hfz71_3, hfz71_4, hfz71_5⟩ := fz6 BK484.out; obtain ⟨hcz72_0, hcz72_1, hcz72_2, hcz72_3, hcz72_4, hcz72_5⟩ := cz6 BK479.out; obtain ⟨hfz72_0, hfz72_1, hfz72_2, hfz72_3, hfz72_4, hfz72_5⟩ := fz6 BK479.out; obtain ⟨hcz73_0, hcz73_1, hcz73_2, hcz73_3, hcz73_4, hcz73_5⟩ := cz6 BK480.out; obtain ⟨hfz73_0, hfz73_1, hfz73_2, hfz73_3, hfz73_4, hfz73_5⟩ := fz6 BK480.out))
     refine bodyPost_ret (results_cell_row rfl _ _ gb480 24 #[.string t481, .string t482, .slice Ao69 t490.length co69, .int .i64 t483, .bool (t483 == 2), .bool false] (0, 0) _ rfl (by (with_reducible repeat (first | refine blk_drewN ?_ _ | refine blk_drew ?_ | refine blk_alloc ?_ _)); refine blk_put (cs := #[.string t481, .string t482, .slice Ao69 t490.length co69, .int .i64 t483, .bool (t483 == 2), .bool false]) ?_ 5 _ rfl; (with_reducible repeat (first | refine blk_drewN ?_ _ | refine blk_drew ?_ | refine blk_alloc ?_ _)); refine blk_put (cs := #[.string t481, .string t482, .slice Ao69 t490.length co69, .int .i64 t483, .bool false, .bool false]) ?_ 4 _ rfl; (with_reducible repeat (first | refine blk_drewN ?_ _ | refine blk_drew ?_ | refine blk_alloc ?_ _)); refine blk_put (cs := #[.string t481, .string t482, .slice Ao69 t490.length co69, .int .i64 0, .bool false, .bool false]) ?_ 3 _ rfl; (with_reducible repeat (first | refine blk_drewN ?_ _ | refine blk_drew ?_ | refine blk_alloc ?_ _)); refine blk_put (cs := #[.string t481, .string t482, .slice none 0 0, .int .i64 0, .bool false, .bool false]) ?_ 2 _ rfl; (with_reducible repeat (first | refine blk_drewN ?_ _ | refine blk_drew ?_ | refine blk_alloc ?_ _)); refine blk_put (cs := #[.string t481, .string (⟨#[]⟩ : ByteArray), .slice none 0 0, .int .i64 0, .bool false, .bool false]) ?_ 1 _ rfl; (with_reducible repeat (first | refine blk_drewN ?_ _ | refine blk_drew ?_ | refine blk_alloc ?_ _)); refine blk_put (cs := #[.string (⟨#[]⟩ : ByteArray), .string (⟨#[]⟩ : ByteArray), .slice none 0 0, .int .i64 0, .bool false, .bool false]) ?_ 0 _ rfl; (with_reducible repeat (first | refine blk_drewN ?_ _ | refine blk_drew ?_ | refine blk_alloc ?_ _)); refine blk_far ?_ NB480_484.out _; (with_reducible repeat (first | refine blk_drewN ?_ _ | refine blk_drew ?_ | refine blk_alloc ?_ _)); refine blk_far ?_ NB480_484.out _; (with_reducible repeat (first | refine blk_drewN ?_ _ | refine blk_drew ?_ | refine blk_alloc ?_ _)); refine blk_far ?_ NB480_484.out _; (with_reducible repeat (first | refine blk_drewN ?_ _ | refine blk_drew ?_ | refine blk_alloc ?_ _)); exact BK480.out) Tryz.underlying24 rfl zz34) rfl ?_
     exact ⟨_, zz4, by (with_reducible repeat (first | apply Kd.R_alloc | apply Kd.R_drewN | apply Kd.R_drew)); exact Kd.R_mono (Kd.R_far (p := ⟨gb480, 5, none⟩) (Kd.R_far (p := ⟨gb480, 4, none⟩) (Kd.R_far (p := ⟨gb480, 3, none⟩) (Kd.R_far (p := ⟨gb480, 2, none⟩) (Kd.R_far (p := ⟨gb480, 1, none⟩) (Kd.R_far (p := ⟨gb480, 0, none⟩) (Kd.R_far (p := ⟨gb484, 5, none⟩) (Kd.R_far (p := ⟨gb484, 4, none⟩) (Kd.R_far (p := ⟨gb484, 2, none⟩) (Kd.R_types (Kd.R_types HO492.out BK484.out (by decide)) BK480.out (by decide)) (fun _ hk => hk.1.2) (.slice Ao69 t490.length co69)) (fun _ hk => hk.1.2) (.bool (t483 == 2))) (fun _ hk => hk.1.2) (.bool false)) (fun _ hk => hk.2) (.string t481)) (fun _ hk => hk.2) (.string t482)) (fun _ hk => hk.2) (.slice Ao69 t490.length co69)) (fun _ hk => hk.2) (.int .i64 t483)) (fun _ hk => hk.2) (.bool (t483 == 2))) (fun _ hk => hk.2) (.bool false)) (fun _ hk => trivial), zz3⟩
    replace c30 := Bool.eq_false_iff.mpr c30
    subst c30
    have H1 : (if a0_5 = true then (if t483 = 0 then (some (t481, t482, t490, t483, false, true)) else (some (t481, t482, t490, t483, false, (t483 == 1)))) else (some (t481, t482, t490, t483, false, false))) = some (r1, r2, r3, r4, r5, r6) := by rw [if_neg (show ¬ (false = true) by decide)] at H; exact H
    clear H
    have H := H1
    clear H1
    by_cases c74 : a0_5 = true
    ·subst c74
     have H1 : (if t483 = 0 then (some (t481, t482, t490, t483, false, true)) else (some (t481, t482, t490, t483, false, (t483 == 1)))) = some (r1, r2, r3, r4, r5, r6) := by rw [if_pos rfl] at H; exact H
     clear H
     have H := H1
     clear H1
     by_cases c75 : t483 = 0
     ·rw [if_pos c75] at H
      obtain ⟨c75b0, c75b1⟩ := eqT c75
      clear c75
      simp only [Option.some.injEq, Prod.mk.injEq] at H
      obtain ⟨rfl, rfl, rfl, rfl, rfl, rfl⟩ := H
      have hnb76 := NB479_480.out
      have hnc76 := NB480_479.out
      have hnb77 := NB479_484.out
      have hnc77 := NB484_479.out
      obtain ⟨hcz78_0, hcz78_1, hcz78_2, hcz78_3, hcz78_4, hcz78_5⟩ := cz6 BK479.out
      obtain ⟨hfz78_0, hfz78_1, hfz78_2, hfz78_3, hfz78_4, hfz78_5⟩ := fz6 BK479.out
      obtain ⟨Ao79, co79, eo79⟩ := Kd.R_slice HO_6.out
      subst eo79
      go_wp2_with (first | ((with_reducible refine gc 16 ?_); refine gL (some 40) Tryz.func16 #[.slice Ao79 x6_1.length co79] ?_; (with_reducible refine (cardexref08_Groups.calls _ _ x6_1 t490 _ ?side1 ?side2 A29.out).mono ?_); (case side1 => exact zz19); (case side2 => exact (Kd.R_reads' HO_6.out).2.1); rintro e w80 ⟨v491, rfl, ho0, hb⟩; refine ⟨_, rfl, ?_⟩; have n_ := as6 (Kd.R_elder' zz12 (Kd.R_base ho0) hb) (Kd.R_lower (Kd.R_new' ho0 (Kd.R_lt zz12)) (below_size zz3)) (blk_below zz9 hb) (blk_below zz10 hb) (blk_below zz21 hb) (below_step zz3 hb); clear HO_6 BK479 BK480 BK484 HB; obtain ⟨HO_6, HO492, BK479, BK480, BK484, HB⟩ := n_; (try clear hb ho0); obtain ⟨Ao81, co81, eo81⟩ := Kd.R_slice HO492.out; subst eo81; have hnb82 := NB484_480.out; have hnc82 := NB480_484.out; obtain ⟨hcz83_0, hcz83_1, hcz83_2, hcz83_3, hcz83_4, hcz83_5⟩ := cz6 BK484.out; obtain ⟨hfz83_0, hfz83_1, hfz83_2, hfz83_3, hfz83_4, hfz83_5⟩ := fz6 BK484.out; obtain ⟨hcz84_0, hcz84_1, hcz84_2, hcz84_3, hcz84_4, hcz84_5⟩ := cz6 BK479.out; obtain ⟨hfz84_0, hfz84_1, hfz84_2, hfz84_3, hfz84_4, hfz84_5⟩ := fz6 BK479.out; obtain ⟨hcz85_0, hcz85_1, hcz85_2, hcz85_3, hcz85_4, hcz85_5⟩ := cz6 BK480.out; obtain ⟨hfz85_0, hfz85_1, hfz85_2, hfz85_3, hfz85_4, hfz85_5⟩ := fz6 BK480.out))
      refine bodyPost_ret (results_cell_row rfl _ _ gb480 24 #[.string t481, .string t482, .slice Ao81 t490.length co81, .int .i64 t483, .bool false, .bool true] (0, 0) _ rfl (by (with_reducible repeat (first | refine blk_drewN ?_ _ | refine blk_drew ?_ | refine blk_alloc ?_ _)); refine blk_put (cs := #[.string t481, .string t482, .slice Ao81 t490.length co81, .int .i64 t483, .bool false, .bool false]) ?_ 5 _ rfl; (with_reducible repeat (first | refine blk_drewN ?_ _ | refine blk_drew ?_ | refine blk_alloc ?_ _)); refine blk_put (cs := #[.string t481, .string t482, .slice Ao81 t490.length co81, .int .i64 t483, .bool false, .bool false]) ?_ 4 _ rfl; (with_reducible repeat (first | refine blk_drewN ?_ _ | refine blk_drew ?_ | refine blk_alloc ?_ _)); refine blk_put (cs := #[.string t481, .string t482, .slice Ao81 t490.length co81, .int .i64 0, .bool false, .bool false]) ?_ 3 _ rfl; (with_reducible repeat (first | refine blk_drewN ?_ _ | refine blk_drew ?_ | refine blk_alloc ?_ _)); refine blk_put (cs := #[.string t481, .string t482, .slice none 0 0, .int .i64 0, .bool false, .bool false]) ?_ 2 _ rfl; (with_reducible repeat (first | refine blk_drewN ?_ _ | refine blk_drew ?_ | refine blk_alloc ?_ _)); refine blk_put (cs := #[.string t481, .string (⟨#[]⟩ : ByteArray), .slice none 0 0, .int .i64 0, .bool false, .bool false]) ?_ 1 _ rfl; (with_reducible repeat (first | refine blk_drewN ?_ _ | refine blk_drew ?_ | refine blk_alloc ?_ _)); refine blk_put (cs := #[.string (⟨#[]⟩ : ByteArray), .string (⟨#[]⟩ : ByteArray), .slice none 0 0, .int .i64 0, .bool false, .bool false]) ?_ 0 _ rfl; (with_reducible repeat (first | refine blk_drewN ?_ _ | refine blk_drew ?_ | refine blk_alloc ?_ _)); refine blk_far ?_ NB480_484.out _; (with_reducible repeat (first | refine blk_drewN ?_ _ | refine blk_drew ?_ | refine blk_alloc ?_ _)); refine blk_far ?_ NB480_484.out _; (with_reducible repeat (first | refine blk_drewN ?_ _ | refine blk_drew ?_ | refine blk_alloc ?_ _)); refine blk_far ?_ NB480_484.out _; (with_reducible repeat (first | refine blk_drewN ?_ _ | refine blk_drew ?_ | refine blk_alloc ?_ _)); exact BK480.out) Tryz.underlying24 rfl zz34) rfl ?_
      exact ⟨_, zz4, by (with_reducible repeat (first | apply Kd.R_alloc | apply Kd.R_drewN | apply Kd.R_drew)); exact Kd.R_mono (Kd.R_far (p := ⟨gb480, 5, none⟩) (Kd.R_far (p := ⟨gb480, 4, none⟩) (Kd.R_far (p := ⟨gb480, 3, none⟩) (Kd.R_far (p := ⟨gb480, 2, none⟩) (Kd.R_far (p := ⟨gb480, 1, none⟩) (Kd.R_far (p := ⟨gb480, 0, none⟩) (Kd.R_far (p := ⟨gb484, 5, none⟩) (Kd.R_far (p := ⟨gb484, 4, none⟩) (Kd.R_far (p := ⟨gb484, 2, none⟩) (Kd.R_types (Kd.R_types HO492.out BK484.out (by decide)) BK480.out (by decide)) (fun _ hk => hk.1.2) (.slice Ao81 t490.length co81)) (fun _ hk => hk.1.2) (.bool false)) (fun _ hk => hk.1.2) (.bool true)) (fun _ hk => hk.2) (.string t481)) (fun _ hk => hk.2) (.string t482)) (fun _ hk => hk.2) (.slice Ao81 t490.length co81)) (fun _ hk => hk.2) (.int .i64 t483)) (fun _ hk => hk.2) (.bool false)) (fun _ hk => hk.2) (.bool true)) (fun _ hk => trivial), zz3⟩
     rw [if_neg c75] at H
     obtain ⟨c75b0, c75b1⟩ := eqF c75
     simp only [Option.some.injEq, Prod.mk.injEq] at H
     obtain ⟨rfl, rfl, rfl, rfl, rfl, rfl⟩ := H
     have hnb86 := NB479_480.out
     have hnc86 := NB480_479.out
     have hnb87 := NB479_484.out
     have hnc87 := NB484_479.out
     obtain ⟨hcz88_0, hcz88_1, hcz88_2, hcz88_3, hcz88_4, hcz88_5⟩ := cz6 BK479.out
     obtain ⟨hfz88_0, hfz88_1, hfz88_2, hfz88_3, hfz88_4, hfz88_5⟩ := fz6 BK479.out
     obtain ⟨Ao89, co89, eo89⟩ := Kd.R_slice HO_6.out
     subst eo89
     go_wp2_with (first | ((with_reducible refine gc 16 ?_); refine gL (some 40) Tryz.func16 #[.slice Ao89 x6_1.length co89] ?_; (with_reducible refine (cardexref08_Groups.calls _ _ x6_1 t490 _ ?side1 ?side2 A29.out).mono ?_); (case side1 => exact zz19); (case side2 => exact (Kd.R_reads' HO_6.out).2.1); rintro e w90 ⟨v491, rfl, ho0, hb⟩; refine ⟨_, rfl, ?_⟩; have n_ := as6 (Kd.R_elder' zz12 (Kd.R_base ho0) hb) (Kd.R_lower (Kd.R_new' ho0 (Kd.R_lt zz12)) (below_size zz3)) (blk_below zz9 hb) (blk_below zz10 hb) (blk_below zz21 hb) (below_step zz3 hb); clear HO_6 BK479 BK480 BK484 HB; obtain ⟨HO_6, HO492, BK479, BK480, BK484, HB⟩ := n_; (try clear hb ho0); obtain ⟨Ao91, co91, eo91⟩ := Kd.R_slice HO492.out; subst eo91; have hnb92 := NB484_480.out; have hnc92 := NB480_484.out; obtain ⟨hcz93_0, hcz93_1, hcz93_2, hcz93_3, hcz93_4, hcz93_5⟩ := cz6 BK484.out; obtain ⟨hfz93_0, hfz93_1, hfz93_2, hfz93_3, hfz93_4, hfz93_5⟩ := fz6 BK484.out; obtain ⟨hcz94_0, hcz94_1, hcz94_2, hcz94_3, hcz94_4, hcz94_5⟩ := cz6 BK479.out; obtain ⟨hfz94_0, hfz94_1, hfz94_2, hfz94_3, hfz94_4, hfz94_5⟩ := fz6 BK479.out; obtain ⟨hcz95_0, hcz95_1, hcz95_2, hcz95_3, hcz95_4, hcz95_5⟩ := cz6 BK480.out; obtain ⟨hfz95_0, hfz95_1, hfz95_2, hfz95_3, hfz95_4, hfz95_5⟩ := fz6 BK480.out))
     refine bodyPost_ret (results_cell_row rfl _ _ gb480 24 #[.string t481, .string t482, .slice Ao91 t490.length co91, .int .i64 t483, .bool false, .bool (t483 == 1)] (0, 0) _ rfl (by (with_reducible repeat (first | refine blk_drewN ?_ _ | refine blk_drew ?_ | refine blk_alloc ?_ _)); refine blk_put (cs := #[.string t481, .string t482, .slice Ao91 t490.length co91, .int .i64 t483, .bool false, .bool false]) ?_ 5 _ rfl; (with_reducible repeat (first | refine blk_drewN ?_ _ | refine blk_drew ?_ | refine blk_alloc ?_ _)); refine blk_put (cs := #[.string t481, .string t482, .slice Ao91 t490.length co91, .int .i64 t483, .bool false, .bool false]) ?_ 4 _ rfl; (with_reducible repeat (first | refine blk_drewN ?_ _ | refine blk_drew ?_ | refine blk_alloc ?_ _)); refine blk_put (cs := #[.string t481, .string t482, .slice Ao91 t490.length co91, .int .i64 0, .bool false, .bool false]) ?_ 3 _ rfl; (with_reducible repeat (first | refine blk_drewN ?_ _ | refine blk_drew ?_ | refine blk_alloc ?_ _)); refine blk_put (cs := #[.string t481, .string t482, .slice none 0 0, .int .i64 0, .bool false, .bool false]) ?_ 2 _ rfl; (with_reducible repeat (first | refine blk_drewN ?_ _ | refine blk_drew ?_ | refine blk_alloc ?_ _)); refine blk_put (cs := #[.string t481, .string (⟨#[]⟩ : ByteArray), .slice none 0 0, .int .i64 0, .bool false, .bool false]) ?_ 1 _ rfl; (with_reducible repeat (first | refine blk_drewN ?_ _ | refine blk_drew ?_ | refine blk_alloc ?_ _)); refine blk_put (cs := #[.string (⟨#[]⟩ : ByteArray), .string (⟨#[]⟩ : ByteArray), .slice none 0 0, .int .i64 0, .bool false, .bool false]) ?_ 0 _ rfl; (with_reducible repeat (first | refine blk_drewN ?_ _ | refine blk_drew ?_ | refine blk_alloc ?_ _)); refine blk_far ?_ NB480_484.out _; (with_reducible repeat (first | refine blk_drewN ?_ _ | refine blk_drew ?_ | refine blk_alloc ?_ _)); refine blk_far ?_ NB480_484.out _; (with_reducible repeat (first | refine blk_drewN ?_ _ | refine blk_drew ?_ | refine blk_alloc ?_ _)); refine blk_far ?_ NB480_484.out _; (with_reducible repeat (first | refine blk_drewN ?_ _ | refine blk_drew ?_ | refine blk_alloc ?_ _)); exact BK480.out) Tryz.underlying24 rfl zz34) rfl ?_
     exact ⟨_, zz4, by (with_reducible repeat (first | apply Kd.R_alloc | apply Kd.R_drewN | apply Kd.R_drew)); exact Kd.R_mono (Kd.R_far (p := ⟨gb480, 5, none⟩) (Kd.R_far (p := ⟨gb480, 4, none⟩) (Kd.R_far (p := ⟨gb480, 3, none⟩) (Kd.R_far (p := ⟨gb480, 2, none⟩) (Kd.R_far (p := ⟨gb480, 1, none⟩) (Kd.R_far (p := ⟨gb480, 0, none⟩) (Kd.R_far (p := ⟨gb484, 5, none⟩) (Kd.R_far (p := ⟨gb484, 4, none⟩) (Kd.R_far (p := ⟨gb484, 2, none⟩) (Kd.R_types (Kd.R_types HO492.out BK484.out (by decide)) BK480.out (by decide)) (fun _ hk => hk.1.2) (.slice Ao91 t490.length co91)) (fun _ hk => hk.1.2) (.bool false)) (fun _ hk => hk.1.2) (.bool (t483 == 1))) (fun _ hk => hk.2) (.string t481)) (fun _ hk => hk.2) (.string t482)) (fun _ hk => hk.2) (.slice Ao91 t490.length co91)) (fun _ hk => hk.2) (.int .i64 t483)) (fun _ hk => hk.2) (.bool false)) (fun _ hk => hk.2) (.bool (t483 == 1))) (fun _ hk => trivial), zz3⟩
    replace c74 := Bool.eq_false_iff.mpr c74
    subst c74
    have H1 : (some (t481, t482, t490, t483, false, false)) = some (r1, r2, r3, r4, r5, r6) := by rw [if_neg (show ¬ (false = true) by decide)] at H; exact H
    clear H
    have H := H1
    clear H1
    simp only [Option.some.injEq, Prod.mk.injEq] at H
    obtain ⟨rfl, rfl, rfl, rfl, rfl, rfl⟩ := H
    have hnb96 := NB479_480.out
    have hnc96 := NB480_479.out
    have hnb97 := NB479_484.out
    have hnc97 := NB484_479.out
    obtain ⟨hcz98_0, hcz98_1, hcz98_2, hcz98_3, hcz98_4, hcz98_5⟩ := cz6 BK479.out
    obtain ⟨hfz98_0, hfz98_1, hfz98_2, hfz98_3, hfz98_4, hfz98_5⟩ := fz6 BK479.out
    obtain ⟨Ao99, co99, eo99⟩ := Kd.R_slice HO_6.out
    subst eo99
    go_wp2_with (first | ((with_reducible refine gc 16 ?_); refine gL (some 40) Tryz.func16 #[.slice Ao99 x6_1.length co99] ?_; (with_reducible refine (cardexref08_Groups.calls _ _ x6_1 t490 _ ?side1 ?side2 A29.out).mono ?_); (case side1 => exact zz19); (case side2 => exact (Kd.R_reads' HO_6.out).2.1); rintro e w100 ⟨v491, rfl, ho0, hb⟩; refine ⟨_, rfl, ?_⟩; have n_ := as6 (Kd.R_elder' zz12 (Kd.R_base ho0) hb) (Kd.R_lower (Kd.R_new' ho0 (Kd.R_lt zz12)) (below_size zz3)) (blk_below zz9 hb) (blk_below zz10 hb) (blk_below zz21 hb) (below_step zz3 hb); clear HO_6 BK479 BK480 BK484 HB; obtain ⟨HO_6, HO492, BK479, BK480, BK484, HB⟩ := n_; (try clear hb ho0); obtain ⟨Ao101, co101, eo101⟩ := Kd.R_slice HO492.out; subst eo101; have hnb102 := NB484_480.out; have hnc102 := NB480_484.out; obtain ⟨hcz103_0, hcz103_1, hcz103_2, hcz103_3, hcz103_4, hcz103_5⟩ := cz6 BK484.out; obtain ⟨hfz103_0, hfz103_1, hfz103_2, hfz103_3, hfz103_4, hfz103_5⟩ := fz6 BK484.out; obtain ⟨hcz104_0, hcz104_1, hcz104_2, hcz104_3, hcz104_4, hcz104_5⟩ := cz6 BK479.out; obtain ⟨hfz104_0, hfz104_1, hfz104_2, hfz104_3, hfz104_4, hfz104_5⟩ := fz6 BK479.out; obtain ⟨hcz105_0, hcz105_1, hcz105_2, hcz105_3, hcz105_4, hcz105_5⟩ := cz6 BK480.out; obtain ⟨hfz105_0, hfz105_1, hfz105_2, hfz105_3, hfz105_4, hfz105_5⟩ := fz6 BK480.out))
    refine bodyPost_ret (results_cell_row rfl _ _ gb480 24 #[.string t481, .string t482, .slice Ao101 t490.length co101, .int .i64 t483, .bool false, .bool false] (0, 0) _ rfl (by (with_reducible repeat (first | refine blk_drewN ?_ _ | refine blk_drew ?_ | refine blk_alloc ?_ _)); refine blk_put (cs := #[.string t481, .string t482, .slice Ao101 t490.length co101, .int .i64 t483, .bool false, .bool false]) ?_ 5 _ rfl; (with_reducible repeat (first | refine blk_drewN ?_ _ | refine blk_drew ?_ | refine blk_alloc ?_ _)); refine blk_put (cs := #[.string t481, .string t482, .slice Ao101 t490.length co101, .int .i64 t483, .bool false, .bool false]) ?_ 4 _ rfl; (with_reducible repeat (first | refine blk_drewN ?_ _ | refine blk_drew ?_ | refine blk_alloc ?_ _)); refine blk_put (cs := #[.string t481, .string t482, .slice Ao101 t490.length co101, .int .i64 0, .bool false, .bool false]) ?_ 3 _ rfl; (with_reducible repeat (first | refine blk_drewN ?_ _ | refine blk_drew ?_ | refine blk_alloc ?_ _)); refine blk_put (cs := #[.string t481, .string t482, .slice none 0 0, .int .i64 0, .bool false, .bool false]) ?_ 2 _ rfl; (with_reducible repeat (first | refine blk_drewN ?_ _ | refine blk_drew ?_ | refine blk_alloc ?_ _)); refine blk_put (cs := #[.string t481, .string (⟨#[]⟩ : ByteArray), .slice none 0 0, .int .i64 0, .bool false, .bool false]) ?_ 1 _ rfl; (with_reducible repeat (first | refine blk_drewN ?_ _ | refine blk_drew ?_ | refine blk_alloc ?_ _)); refine blk_put (cs := #[.string (⟨#[]⟩ : ByteArray), .string (⟨#[]⟩ : ByteArray), .slice none 0 0, .int .i64 0, .bool false, .bool false]) ?_ 0 _ rfl; (with_reducible repeat (first | refine blk_drewN ?_ _ | refine blk_drew ?_ | refine blk_alloc ?_ _)); refine blk_far ?_ NB480_484.out _; (with_reducible repeat (first | refine blk_drewN ?_ _ | refine blk_drew ?_ | refine blk_alloc ?_ _)); refine blk_far ?_ NB480_484.out _; (with_reducible repeat (first | refine blk_drewN ?_ _ | refine blk_drew ?_ | refine blk_alloc ?_ _)); refine blk_far ?_ NB480_484.out _; (with_reducible repeat (first | refine blk_drewN ?_ _ | refine blk_drew ?_ | refine blk_alloc ?_ _)); exact BK480.out) Tryz.underlying24 rfl zz34) rfl ?_
    exact ⟨_, zz4, by (with_reducible repeat (first | apply Kd.R_alloc | apply Kd.R_drewN | apply Kd.R_drew)); exact Kd.R_mono (Kd.R_far (p := ⟨gb480, 5, none⟩) (Kd.R_far (p := ⟨gb480, 4, none⟩) (Kd.R_far (p := ⟨gb480, 3, none⟩) (Kd.R_far (p := ⟨gb480, 2, none⟩) (Kd.R_far (p := ⟨gb480, 1, none⟩) (Kd.R_far (p := ⟨gb480, 0, none⟩) (Kd.R_far (p := ⟨gb484, 5, none⟩) (Kd.R_far (p := ⟨gb484, 4, none⟩) (Kd.R_far (p := ⟨gb484, 2, none⟩) (Kd.R_types (Kd.R_types HO492.out BK484.out (by decide)) BK480.out (by decide)) (fun _ hk => hk.1.2) (.slice Ao101 t490.length co101)) (fun _ hk => hk.1.2) (.bool false)) (fun _ hk => hk.1.2) (.bool false)) (fun _ hk => hk.2) (.string t481)) (fun _ hk => hk.2) (.string t482)) (fun _ hk => hk.2) (.slice Ao101 t490.length co101)) (fun _ hk => hk.2) (.int .i64 t483)) (fun _ hk => hk.2) (.bool false)) (fun _ hk => hk.2) (.bool false)) (fun _ hk => trivial), zz3⟩
   rw [if_neg c19] at H
   have c19b0 := decide_eq_false c19
   clear c19
   replace H := Option.bind_eq_some_iff.mp H
   obtain ⟨t493, A1060, H⟩ := H
   try dsimp only at H
   have A106 := Aside0.mk A1060
   clear A1060
   by_cases c107 : a0_4 = true
   ·subst c107
    have H1 : (if t483 = 0 then (if a0_5 = true then (some (t481, t482, t493, t483, true, true)) else (some (t481, t482, t493, t483, true, false))) else (if a0_5 = true then (some (t481, t482, t493, t483, (t483 == 2), (t483 == 1))) else (some (t481, t482, t493, t483, (t483 == 2), false)))) = some (r1, r2, r3, r4, r5, r6) := by rw [if_pos rfl] at H; exact H
    clear H
    have H := H1
    clear H1
    by_cases c108 : t483 = 0
    ·rw [if_pos c108] at H
     obtain ⟨c108b0, c108b1⟩ := eqT c108
     clear c108
     by_cases c109 : a0_5 = true
     ·subst c109
      have H1 : (some (t481, t482, t493, t483, true, true)) = some (r1, r2, r3, r4, r5, r6) := by rw [if_pos rfl] at H; exact H
      clear H
      have H := H1
      clear H1
      simp only [Option.some.injEq, Prod.mk.injEq] at H
      obtain ⟨rfl, rfl, rfl, rfl, rfl, rfl⟩ := H
      have hnb110 := NB479_480.out
      have hnc110 := NB480_479.out
      have hnb111 := NB479_484.out
      have hnc111 := NB484_479.out
      obtain ⟨hcz112_0, hcz112_1, hcz112_2, hcz112_3, hcz112_4, hcz112_5⟩ := cz6 BK479.out
      obtain ⟨hfz112_0, hfz112_1, hfz112_2, hfz112_3, hfz112_4, hfz112_5⟩ := fz6 BK479.out
      obtain ⟨Ao113, co113, eo113⟩ := Kd.R_slice HO_6.out
      subst eo113
      go_wp2_with (first | ((with_reducible refine gc 16 ?_); refine gL (some 40) Tryz.func16 #[.slice Ao113 x6_1.length co113] ?_; (with_reducible refine (cardexref08_Groups.calls _ _ x6_1 t493 _ ?side1 ?side2 A106.out).mono ?_); (case side1 => exact zz19); (case side2 => exact (Kd.R_reads' HO_6.out).2.1); rintro e w114 ⟨v494, rfl, ho0, hb⟩; refine ⟨_, rfl, ?_⟩; have n_ := as6 (Kd.R_elder' zz12 (Kd.R_base ho0) hb) (Kd.R_lower (Kd.R_new' ho0 (Kd.R_lt zz12)) (below_size zz3)) (blk_below zz9 hb) (blk_below zz10 hb) (blk_below zz21 hb) (below_step zz3 hb); clear HO_6 BK479 BK480 BK484 HB; obtain ⟨HO_6, HO495, BK479, BK480, BK484, HB⟩ := n_; (try clear hb ho0); obtain ⟨Ao115, co115, eo115⟩ := Kd.R_slice HO495.out; subst eo115; have hnb116 := NB484_480.out; have hnc116 := NB480_484.out; obtain ⟨hcz117_0, hcz117_1, hcz117_2, hcz117_3, hcz117_4, hcz117_5⟩ := cz6 BK484.out; obtain ⟨hfz117_0, hfz117_1, hfz117_2, hfz117_3, hfz117_4, hfz117_5⟩ := fz6 BK484.out; obtain ⟨hcz118_0, hcz118_1, hcz118_2, hcz118_3, hcz118_4, hcz118_5⟩ := cz6 BK479.out; obtain ⟨hfz118_0, hfz118_1, hfz118_2, hfz118_3, hfz118_4, hfz118_5⟩ := fz6 BK479.out; obtain ⟨hcz119_0, hcz119_1, hcz119_2, hcz119_3, hcz119_4, hcz119_5⟩ := cz6 BK480.out; obtain ⟨hfz119_0, hfz119_1, hfz119_2, hfz119_3, hfz119_4, hfz119_5⟩ := fz6 BK480.out))
      refine bodyPost_ret (results_cell_row rfl _ _ gb480 24 #[.string t481, .string t482, .slice Ao115 t493.length co115, .int .i64 t483, .bool true, .bool true] (0, 0) _ rfl (by (with_reducible repeat (first | refine blk_drewN ?_ _ | refine blk_drew ?_ | refine blk_alloc ?_ _)); refine blk_put (cs := #[.string t481, .string t482, .slice Ao115 t493.length co115, .int .i64 t483, .bool true, .bool false]) ?_ 5 _ rfl; (with_reducible repeat (first | refine blk_drewN ?_ _ | refine blk_drew ?_ | refine blk_alloc ?_ _)); refine blk_put (cs := #[.string t481, .string t482, .slice Ao115 t493.length co115, .int .i64 t483, .bool false, .bool false]) ?_ 4 _ rfl; (with_reducible repeat (first | refine blk_drewN ?_ _ | refine blk_drew ?_ | refine blk_alloc ?_ _)); refine blk_put (cs := #[.string t481, .string t482, .slice Ao115 t493.length co115, .int .i64 0, .bool false, .bool false]) ?_ 3 _ rfl; (with_reducible repeat (first | refine blk_drewN ?_ _ | refine blk_drew ?_ | refine blk_alloc ?_ _)); refine blk_put (cs := #[.string t481, .string t482, .slice none 0 0, .int .i64 0, .bool false, .bool false]) ?_ 2 _ rfl; (with_reducible repeat (first | refine blk_drewN ?_ _ | refine blk_drew ?_ | refine blk_alloc ?_ _)); refine blk_put (cs := #[.string t481, .string (⟨#[]⟩ : ByteArray), .slice none 0 0, .int .i64 0, .bool false, .bool false]) ?_ 1 _ rfl; (with_reducible repeat (first | refine blk_drewN ?_ _ | refine blk_drew ?_ | refine blk_alloc ?_ _)); refine blk_put (cs := #[.string (⟨#[]⟩ : ByteArray), .string (⟨#[]⟩ : ByteArray), .slice none 0 0, .int .i64 0, .bool false, .bool false]) ?_ 0 _ rfl; (with_reducible repeat (first | refine blk_drewN ?_ _ | refine blk_drew ?_ | refine blk_alloc ?_ _)); refine blk_far ?_ NB480_484.out _; (with_reducible repeat (first | refine blk_drewN ?_ _ | refine blk_drew ?_ | refine blk_alloc ?_ _)); refine blk_far ?_ NB480_484.out _; (with_reducible repeat (first | refine blk_drewN ?_ _ | refine blk_drew ?_ | refine blk_alloc ?_ _)); refine blk_far ?_ NB480_484.out _; (with_reducible repeat (first | refine blk_drewN ?_ _ | refine blk_drew ?_ | refine blk_alloc ?_ _)); exact BK480.out) Tryz.underlying24 rfl zz34) rfl ?_
      exact ⟨_, zz4, by (with_reducible repeat (first | apply Kd.R_alloc | apply Kd.R_drewN | apply Kd.R_drew)); exact Kd.R_mono (Kd.R_far (p := ⟨gb480, 5, none⟩) (Kd.R_far (p := ⟨gb480, 4, none⟩) (Kd.R_far (p := ⟨gb480, 3, none⟩) (Kd.R_far (p := ⟨gb480, 2, none⟩) (Kd.R_far (p := ⟨gb480, 1, none⟩) (Kd.R_far (p := ⟨gb480, 0, none⟩) (Kd.R_far (p := ⟨gb484, 5, none⟩) (Kd.R_far (p := ⟨gb484, 4, none⟩) (Kd.R_far (p := ⟨gb484, 2, none⟩) (Kd.R_types (Kd.R_types HO495.out BK484.out (by decide)) BK480.out (by decide)) (fun _ hk => hk.1.2) (.slice Ao115 t493.length co115)) (fun _ hk => hk.1.2) (.bool true)) (fun _ hk => hk.1.2) (.bool true)) (fun _ hk => hk.2) (.string t481)) (fun _ hk => hk.2) (.string t482)) (fun _ hk => hk.2) (.slice Ao115 t493.length co115)) (fun _ hk => hk.2) (.int .i64 t483)) (fun _ hk => hk.2) (.bool true)) (fun _ hk => hk.2) (.bool true)) (fun _ hk => trivial), zz3⟩
     replace c109 := Bool.eq_false_iff.mpr c109
     subst c109
     have H1 : (some (t481, t482, t493, t483, true, false)) = some (r1, r2, r3, r4, r5, r6) := by rw [if_neg (show ¬ (false = true) by decide)] at H; exact H
     clear H
     have H := H1
     clear H1
     simp only [Option.some.injEq, Prod.mk.injEq] at H
     obtain ⟨rfl, rfl, rfl, rfl, rfl, rfl⟩ := H
     have hnb120 := NB479_480.out
     have hnc120 := NB480_479.out
     have hnb121 := NB479_484.out
     have hnc121 := NB484_479.out
     obtain ⟨hcz122_0, hcz122_1, hcz122_2, hcz122_3, hcz122_4, hcz122_5⟩ := cz6 BK479.out
     obtain ⟨hfz122_0, hfz122_1, hfz122_2, hfz122_3, hfz122_4, hfz122_5⟩ := fz6 BK479.out
     obtain ⟨Ao123, co123, eo123⟩ := Kd.R_slice HO_6.out
     subst eo123
     go_wp2_with (first | ((with_reducible refine gc 16 ?_); refine gL (some 40) Tryz.func16 #[.slice Ao123 x6_1.length co123] ?_; (with_reducible refine (cardexref08_Groups.calls _ _ x6_1 t493 _ ?side1 ?side2 A106.out).mono ?_); (case side1 => exact zz19); (case side2 => exact (Kd.R_reads' HO_6.out).2.1); rintro e w124 ⟨v494, rfl, ho0, hb⟩; refine ⟨_, rfl, ?_⟩; have n_ := as6 (Kd.R_elder' zz12 (Kd.R_base ho0) hb) (Kd.R_lower (Kd.R_new' ho0 (Kd.R_lt zz12)) (below_size zz3)) (blk_below zz9 hb) (blk_below zz10 hb) (blk_below zz21 hb) (below_step zz3 hb); clear HO_6 BK479 BK480 BK484 HB; obtain ⟨HO_6, HO495, BK479, BK480, BK484, HB⟩ := n_; (try clear hb ho0); obtain ⟨Ao125, co125, eo125⟩ := Kd.R_slice HO495.out; subst eo125; have hnb126 := NB484_480.out; have hnc126 := NB480_484.out; obtain ⟨hcz127_0, hcz127_1, hcz127_2, hcz127_3, hcz127_4, hcz127_5⟩ := cz6 BK484.out; obtain ⟨hfz127_0, hfz127_1, hfz127_2, hfz127_3, hfz127_4, hfz127_5⟩ := fz6 BK484.out; obtain ⟨hcz128_0, hcz128_1, hcz128_2, hcz128_3, hcz128_4, hcz128_5⟩ := cz6 BK479.out; obtain ⟨hfz128_0, hfz128_1, hfz128_2, hfz128_3, hfz128_4, hfz128_5⟩ := fz6 BK479.out; obtain ⟨hcz129_0, hcz129_1, hcz129_2, hcz129_3, hcz129_4, hcz129_5⟩ := cz6 BK480.out; obtain ⟨hfz129_0, hfz129_1, hfz129_2, hfz129_3, hfz129_4, hfz129_5⟩ := fz6 BK480.out))
     refine bodyPost_ret (results_cell_row rfl _ _ gb480 24 #[.string t481, .string t482, .slice Ao125 t493.length co125, .int .i64 t483, .bool true, .bool false] (0, 0) _ rfl (by (with_reducible repeat (first | refine blk_drewN ?_ _ | refine blk_drew ?_ | refine blk_alloc ?_ _)); refine blk_put (cs := #[.string t481, .string t482, .slice Ao125 t493.length co125, .int .i64 t483, .bool true, .bool false]) ?_ 5 _ rfl; (with_reducible repeat (first | refine blk_drewN ?_ _ | refine blk_drew ?_ | refine blk_alloc ?_ _)); refine blk_put (cs := #[.string t481, .string t482, .slice Ao125 t493.length co125, .int .i64 t483, .bool false, .bool false]) ?_ 4 _ rfl; (with_reducible repeat (first | refine blk_drewN ?_ _ | refine blk_drew ?_ | refine blk_alloc ?_ _)); refine blk_put (cs := #[.string t481, .string t482, .slice Ao125 t493.length co125, .int .i64 0, .bool false, .bool false]) ?_ 3 _ rfl; (with_reducible repeat (first | refine blk_drewN ?_ _ | refine blk_drew ?_ | refine blk_alloc ?_ _)); refine blk_put (cs := #[.string t481, .string t482, .slice none 0 0, .int .i64 0, .bool false, .bool false]) ?_ 2 _ rfl; (with_reducible repeat (first | refine blk_drewN ?_ _ | refine blk_drew ?_ | refine blk_alloc ?_ _)); refine blk_put (cs := #[.string t481, .string (⟨#[]⟩ : ByteArray), .slice none 0 0, .int .i64 0, .bool false, .bool false]) ?_ 1 _ rfl; (with_reducible repeat (first | refine blk_drewN ?_ _ | refine blk_drew ?_ | refine blk_alloc ?_ _)); refine blk_put (cs := #[.string (⟨#[]⟩ : ByteArray), .string (⟨#[]⟩ : ByteArray), .slice none 0 0, .int .i64 0, .bool false, .bool false]) ?_ 0 _ rfl; (with_reducible repeat (first | refine blk_drewN ?_ _ | refine blk_drew ?_ | refine blk_alloc ?_ _)); refine blk_far ?_ NB480_484.out _; (with_reducible repeat (first | refine blk_drewN ?_ _ | refine blk_drew ?_ | refine blk_alloc ?_ _)); refine blk_far ?_ NB480_484.out _; (with_reducible repeat (first | refine blk_drewN ?_ _ | refine blk_drew ?_ | refine blk_alloc ?_ _)); refine blk_far ?_ NB480_484.out _; (with_reducible repeat (first | refine blk_drewN ?_ _ | refine blk_drew ?_ | refine blk_alloc ?_ _)); exact BK480.out) Tryz.underlying24 rfl zz34) rfl ?_
     exact ⟨_, zz4, by (with_reducible repeat (first | apply Kd.R_alloc | apply Kd.R_drewN | apply Kd.R_drew)); exact Kd.R_mono (Kd.R_far (p := ⟨gb480, 5, none⟩) (Kd.R_far (p := ⟨gb480, 4, none⟩) (Kd.R_far (p := ⟨gb480, 3, none⟩) (Kd.R_far (p := ⟨gb480, 2, none⟩) (Kd.R_far (p := ⟨gb480, 1, none⟩) (Kd.R_far (p := ⟨gb480, 0, none⟩) (Kd.R_far (p := ⟨gb484, 5, none⟩) (Kd.R_far (p := ⟨gb484, 4, none⟩) (Kd.R_far (p := ⟨gb484, 2, none⟩) (Kd.R_types (Kd.R_types HO495.out BK484.out (by decide)) BK480.out (by decide)) (fun _ hk => hk.1.2) (.slice Ao125 t493.length co125)) (fun _ hk => hk.1.2) (.bool true)) (fun _ hk => hk.1.2) (.bool false)) (fun _ hk => hk.2) (.string t481)) (fun _ hk => hk.2) (.string t482)) (fun _ hk => hk.2) (.slice Ao125 t493.length co125)) (fun _ hk => hk.2) (.int .i64 t483)) (fun _ hk => hk.2) (.bool true)) (fun _ hk => hk.2) (.bool false)) (fun _ hk => trivial), zz3⟩
    rw [if_neg c108] at H
    obtain ⟨c108b0, c108b1⟩ := eqF c108
    by_cases c130 : a0_5 = true
    ·subst c130
     have H1 : (some (t481, t482, t493, t483, (t483 == 2), (t483 == 1))) = some (r1, r2, r3, r4, r5, r6) := by rw [if_pos rfl] at H; exact H
     clear H
     have H := H1
     clear H1
     simp only [Option.some.injEq, Prod.mk.injEq] at H
     obtain ⟨rfl, rfl, rfl, rfl, rfl, rfl⟩ := H
     have hnb131 := NB479_480.out
     have hnc131 := NB480_479.out
     have hnb132 := NB479_484.out
     have hnc132 := NB484_479.out
     obtain ⟨hcz133_0, hcz133_1, hcz133_2, hcz133_3, hcz133_4, hcz133_5⟩ := cz6 BK479.out
     obtain ⟨hfz133_0, hfz133_1, hfz133_2, hfz133_3, hfz133_4, hfz133_5⟩ := fz6 BK479.out
     obtain ⟨Ao134, co134, eo134⟩ := Kd.R_slice HO_6.out
     subst eo134
     go_wp2_with (first | ((with_reducible refine gc 16 ?_); refine gL (some 40) Tryz.func16 #[.slice Ao134 x6_1.length co134] ?_; (with_reducible refine (cardexref08_Groups.calls _ _ x6_1 t493 _ ?side1 ?side2 A106.out).mono ?_); (case side1 => exact zz19); (case side2 => exact (Kd.R_reads' HO_6.out).2.1); rintro e w135 ⟨v494, rfl, ho0, hb⟩; refine ⟨_, rfl, ?_⟩; have n_ := as6 (Kd.R_elder' zz12 (Kd.R_base ho0) hb) (Kd.R_lower (Kd.R_new' ho0 (Kd.R_lt zz12)) (below_size zz3)) (blk_below zz9 hb) (blk_below zz10 hb) (blk_below zz21 hb) (below_step zz3 hb); clear HO_6 BK479 BK480 BK484 HB; obtain ⟨HO_6, HO495, BK479, BK480, BK484, HB⟩ := n_; (try clear hb ho0); obtain ⟨Ao136, co136, eo136⟩ := Kd.R_slice HO495.out; subst eo136; have hnb137 := NB484_480.out; have hnc137 := NB480_484.out; obtain ⟨hcz138_0, hcz138_1, hcz138_2, hcz138_3, hcz138_4, hcz138_5⟩ := cz6 BK484.out; obtain ⟨hfz138_0, hfz138_1, hfz138_2, hfz138_3, hfz138_4, hfz138_5⟩ := fz6 BK484.out; obtain ⟨hcz139_0, hcz139_1, hcz139_2, hcz139_3, hcz139_4, hcz139_5⟩ := cz6 BK479.out; obtain ⟨hfz139_0, hfz139_1, hfz139_2, hfz139_3, hfz139_4, hfz139_5⟩ := fz6 BK479.out; obtain ⟨hcz140_0, hcz140_1, hcz140_2, hcz140_3, hcz140_4, hcz140_5⟩ := cz6 BK480.out; obtain ⟨hfz140_0, hfz140_1, hfz140_2, hfz140_3, hfz140_4, hfz140_5⟩ := fz6 BK480.out))
     refine bodyPost_ret (results_cell_row rfl _ _ gb480 24 #[.string t481, .string t482, .slice Ao136 t493.length co136, .int .i64 t483, .bool (t483 == 2), .bool (t483 == 1)] (0, 0) _ rfl (by (with_reducible repeat (first | refine blk_drewN ?_ _ | refine blk_drew ?_ | refine blk_alloc ?_ _)); refine blk_put (cs := #[.string t481, .string t482, .slice Ao136 t493.length co136, .int .i64 t483, .bool (t483 == 2), .bool false]) ?_ 5 _ rfl; (with_reducible repeat (first | refine blk_drewN ?_ _ | refine blk_drew ?_ | refine blk_alloc ?_ _)); refine blk_put (cs := #[.string t481, .string t482, .slice Ao136 t493.length co136, .int .i64 t483, .bool false, .bool false]) ?_ 4 _ rfl; (with_reducible repeat (first | refine blk_drewN ?_ _ | refine blk_drew ?_ | refine blk_alloc ?_ _)); refine blk_put (cs := #[.string t481, .string t482, .slice Ao136 t493.length co136, .int .i64 0, .bool false, .bool false]) ?_ 3 _ rfl; (with_reducible repeat (first | refine blk_drewN ?_ _ | refine blk_drew ?_ | refine blk_alloc ?_ _)); refine blk_put (cs := #[.string t481, .string t482, .slice none 0 0, .int .i64 0, .bool false, .bool false]) ?_ 2 _ rfl; (with_reducible repeat (first | refine blk_drewN ?_ _ | refine blk_drew ?_ | refine blk_alloc ?_ _)); refine blk_put (cs := #[.string t481, .string (⟨#[]⟩ : ByteArray), .slice none 0 0, .int .i64 0, .bool false, .bool false]) ?_ 1 _ rfl; (with_reducible repeat (first | refine blk_drewN ?_ _ | refine blk_drew ?_ | refine blk_alloc ?_ _)); refine blk_put (cs := #[.string (⟨#[]⟩ : ByteArray), .string (⟨#[]⟩ : ByteArray), .slice none 0 0, .int .i64 0, .bool false, .bool false]) ?_ 0 _ rfl; (with_reducible repeat (first | refine blk_drewN ?_ _ | refine blk_drew ?_ | refine blk_alloc ?_ _)); refine blk_far ?_ NB480_484.out _; (with_reducible repeat (first | refine blk_drewN ?_ _ | refine blk_drew ?_ | refine blk_alloc ?_ _)); refine blk_far ?_ NB480_484.out _; (with_reducible repeat (first | refine blk_drewN ?_ _ | refine blk_drew ?_ | refine blk_alloc ?_ _)); refine blk_far ?_ NB480_484.out _; (with_reducible repeat (first | refine blk_drewN ?_ _ | refine blk_drew ?_ | refine blk_alloc ?_ _)); exact BK480.out) Tryz.underlying24 rfl zz34) rfl ?_
     exact ⟨_, zz4, by (with_reducible repeat (first | apply Kd.R_alloc | apply Kd.R_drewN | apply Kd.R_drew)); exact Kd.R_mono (Kd.R_far (p := ⟨gb480, 5, none⟩) (Kd.R_far (p := ⟨gb480, 4, none⟩) (Kd.R_far (p := ⟨gb480, 3, none⟩) (Kd.R_far (p := ⟨gb480, 2, none⟩) (Kd.R_far (p := ⟨gb480, 1, none⟩) (Kd.R_far (p := ⟨gb480, 0, none⟩) (Kd.R_far (p := ⟨gb484, 5, none⟩) (Kd.R_far (p := ⟨gb484, 4, none⟩) (Kd.R_far (p := ⟨gb484, 2, none⟩) (Kd.R_types (Kd.R_types HO495.out BK484.out (by decide)) BK480.out (by decide)) (fun _ hk => hk.1.2) (.slice Ao136 t493.length co136)) (fun _ hk => hk.1.2) (.bool (t483 == 2))) (fun _ hk => hk.1.2) (.bool (t483 == 1))) (fun _ hk => hk.2) (.string t481)) (fun _ hk => hk.2) (.string t482)) (fun _ hk => hk.2) (.slice Ao136 t493.length co136)) (fun _ hk => hk.2) (.int .i64 t483)) (fun _ hk => hk.2) (.bool (t483 == 2))) (fun _ hk => hk.2) (.bool (t483 == 1))) (fun _ hk => trivial), zz3⟩
    replace c130 := Bool.eq_false_iff.mpr c130
    subst c130
    have H1 : (some (t481, t482, t493, t483, (t483 == 2), false)) = some (r1, r2, r3, r4, r5, r6) := by rw [if_neg (show ¬ (false = true) by decide)] at H; exact H
    clear H
    have H := H1
    clear H1
    simp only [Option.some.injEq, Prod.mk.injEq] at H
    obtain ⟨rfl, rfl, rfl, rfl, rfl, rfl⟩ := H
    have hnb141 := NB479_480.out
    have hnc141 := NB480_479.out
    have hnb142 := NB479_484.out
    have hnc142 := NB484_479.out
    obtain ⟨hcz143_0, hcz143_1, hcz143_2, hcz143_3, hcz143_4, hcz143_5⟩ := cz6 BK479.out
    obtain ⟨hfz143_0, hfz143_1, hfz143_2, hfz143_3, hfz143_4, hfz143_5⟩ := fz6 BK479.out
    obtain ⟨Ao144, co144, eo144⟩ := Kd.R_slice HO_6.out
    subst eo144
    go_wp2_with (first | ((with_reducible refine gc 16 ?_); refine gL (some 40) Tryz.func16 #[.slice Ao144 x6_1.length co144] ?_; (with_reducible refine (cardexref08_Groups.calls _ _ x6_1 t493 _ ?side1 ?side2 A106.out).mono ?_); (case side1 => exact zz19); (case side2 => exact (Kd.R_reads' HO_6.out).2.1); rintro e w145 ⟨v494, rfl, ho0, hb⟩; refine ⟨_, rfl, ?_⟩; have n_ := as6 (Kd.R_elder' zz12 (Kd.R_base ho0) hb) (Kd.R_lower (Kd.R_new' ho0 (Kd.R_lt zz12)) (below_size zz3)) (blk_below zz9 hb) (blk_below zz10 hb) (blk_below zz21 hb) (below_step zz3 hb); clear HO_6 BK479 BK480 BK484 HB; obtain ⟨HO_6, HO495, BK479, BK480, BK484, HB⟩ := n_; (try clear hb ho0); obtain ⟨Ao146, co146, eo146⟩ := Kd.R_slice HO495.out; subst eo146; have hnb147 := NB484_480.out; have hnc147 := NB480_484.out; obtain ⟨hcz148_0, hcz148_1, hcz148_2, hcz148_3, hcz148_4, hcz148_5⟩ := cz6 BK484.out; obtain ⟨hfz148_0, hfz148_1, hfz148_2, hfz148_3, hfz148_4, hfz148_5⟩ := fz6 BK484.out; obtain ⟨hcz149_0, hcz149_1, hcz149_2, hcz149_3, hcz149_4, hcz149_5⟩ := cz6 BK479.out; obtain ⟨hfz149_0, hfz149_1, hfz149_2, hfz149_3, hfz149_4, hfz149_5⟩ := fz6 BK479.out; obtain ⟨hcz150_0, hcz150_1, hcz150_2, hcz150_3, hcz150_4, hcz150_5⟩ := cz6 BK480.out; obtain ⟨hfz150_0, hfz150_1, hfz150_2, hfz150_3, hfz150_4, hfz150_5⟩ := fz6 BK480.out))
    refine bodyPost_ret (results_cell_row rfl _ _ gb480 24 #[.string t481, .string t482, .slice Ao146 t493.length co146, .int .i64 t483, .bool (t483 == 2), .bool false] (0, 0) _ rfl (by (with_reducible repeat (first | refine blk_drewN ?_ _ | refine blk_drew ?_ | refine blk_alloc ?_ _)); refine blk_put (cs := #[.string t481, .string t482, .slice Ao146 t493.length co146, .int .i64 t483, .bool (t483 == 2), .bool false]) ?_ 5 _ rfl; (with_reducible repeat (first | refine blk_drewN ?_ _ | refine blk_drew ?_ | refine blk_alloc ?_ _)); refine blk_put (cs := #[.string t481, .string t482, .slice Ao146 t493.length co146, .int .i64 t483, .bool false, .bool false]) ?_ 4 _ rfl; (with_reducible repeat (first | refine blk_drewN ?_ _ | refine blk_drew ?_ | refine blk_alloc ?_ _)); refine blk_put (cs := #[.string t481, .string t482, .slice Ao146 t493.length co146, .int .i64 0, .bool false, .bool false]) ?_ 3 _ rfl; (with_reducible repeat (first | refine blk_drewN ?_ _ | refine blk_drew ?_ | refine blk_alloc ?_ _)); refine blk_put (cs := #[.string t481, .string t482, .slice none 0 0, .int .i64 0, .bool false, .bool false]) ?_ 2 _ rfl; (with_reducible repeat (first | refine blk_drewN ?_ _ | refine blk_drew ?_ | refine blk_alloc ?_ _)); refine blk_put (cs := #[.string t481, .string (⟨#[]⟩ : ByteArray), .slice none 0 0, .int .i64 0, .bool false, .bool false]) ?_ 1 _ rfl; (with_reducible repeat (first | refine blk_drewN ?_ _ | refine blk_drew ?_ | refine blk_alloc ?_ _)); refine blk_put (cs := #[.string (⟨#[]⟩ : ByteArray), .string (⟨#[]⟩ : ByteArray), .slice none 0 0, .int .i64 0, .bool false, .bool false]) ?_ 0 _ rfl; (with_reducible repeat (first | refine blk_drewN ?_ _ | refine blk_drew ?_ | refine blk_alloc ?_ _)); refine blk_far ?_ NB480_484.out _; (with_reducible repeat (first | refine blk_drewN ?_ _ | refine blk_drew ?_ | refine blk_alloc ?_ _)); refine blk_far ?_ NB480_484.out _; (with_reducible repeat (first | refine blk_drewN ?_ _ | refine blk_drew ?_ | refine blk_alloc ?_ _)); refine blk_far ?_ NB480_484.out _; (with_reducible repeat (first | refine blk_drewN ?_ _ | refine blk_drew ?_ | refine blk_alloc ?_ _)); exact BK480.out) Tryz.underlying24 rfl zz34) rfl ?_
    exact ⟨_, zz4, by (with_reducible repeat (first | apply Kd.R_alloc | apply Kd.R_drewN | apply Kd.R_drew)); exact Kd.R_mono (Kd.R_far (p := ⟨gb480, 5, none⟩) (Kd.R_far (p := ⟨gb480, 4, none⟩) (Kd.R_far (p := ⟨gb480, 3, none⟩) (Kd.R_far (p := ⟨gb480, 2, none⟩) (Kd.R_far (p := ⟨gb480, 1, none⟩) (Kd.R_far (p := ⟨gb480, 0, none⟩) (Kd.R_far (p := ⟨gb484, 5, none⟩) (Kd.R_far (p := ⟨gb484, 4, none⟩) (Kd.R_far (p := ⟨gb484, 2, none⟩) (Kd.R_types (Kd.R_types HO495.out BK484.out (by decide)) BK480.out (by decide)) (fun _ hk => hk.1.2) (.slice Ao146 t493.length co146)) (fun _ hk => hk.1.2) (.bool (t483 == 2))) (fun _ hk => hk.1.2) (.bool false)) (fun _ hk => hk.2) (.string t481)) (fun _ hk => hk.2) (.string t482)) (fun _ hk => hk.2) (.slice Ao146 t493.length co146)) (fun _ hk => hk.2) (.int .i64 t483)) (fun _ hk => hk.2) (.bool (t483 == 2))) (fun _ hk => hk.2) (.bool false)) (fun _ hk => trivial), zz3⟩
   replace c107 := Bool.eq_false_iff.mpr c107
   subst c107
   have H1 : (if a0_5 = true then (if t483 = 0 then (some (t481, t482, t493, t483, false, true)) else (some (t481, t482, t493, t483, false, (t483 == 1)))) else (some (t481, t482, t493, t483, false, false))) = some (r1, r2, r3, r4, r5, r6) := by rw [if_neg (show ¬ (false = true) by decide)] at H; exact H
   clear H
   have H := H1
   clear H1
   by_cases c151 : a0_5 = true
   ·subst c151
    have H1 : (if t483 = 0 then (some (t481, t482, t493, t483, false, true)) else (some (t481, t482, t493, t483, false, (t483 == 1)))) = some (r1, r2, r3, r4, r5, r6) := by rw [if_pos rfl] at H; exact H
    clear H
    have H := H1
    clear H1
    by_cases c152 : t483 = 0
    ·rw [if_pos c152] at H
     obtain ⟨c152b0, c152b1⟩ := eqT c152
     clear c152
     simp only [Option.some.injEq, Prod.mk.injEq] at H
     obtain ⟨rfl, rfl, rfl, rfl, rfl, rfl⟩ := H
     have hnb153 := NB479_480.out
     have hnc153 := NB480_479.out
     have hnb154 := NB479_484.out
     have hnc154 := NB484_479.out
     obtain ⟨hcz155_0, hcz155_1, hcz155_2, hcz155_3, hcz155_4, hcz155_5⟩ := cz6 BK479.out
     obtain ⟨hfz155_0, hfz155_1, hfz155_2, hfz155_3, hfz155_4, hfz155_5⟩ := fz6 BK479.out
     obtain ⟨Ao156, co156, eo156⟩ := Kd.R_slice HO_6.out
     subst eo156
     go_wp2_with (first | ((with_reducible refine gc 16 ?_); refine gL (some 40) Tryz.func16 #[.slice Ao156 x6_1.length co156] ?_; (with_reducible refine (cardexref08_Groups.calls _ _ x6_1 t493 _ ?side1 ?side2 A106.out).mono ?_); (case side1 => exact zz19); (case side2 => exact (Kd.R_reads' HO_6.out).2.1); rintro e w157 ⟨v494, rfl, ho0, hb⟩; refine ⟨_, rfl, ?_⟩; have n_ := as6 (Kd.R_elder' zz12 (Kd.R_base ho0) hb) (Kd.R_lower (Kd.R_new' ho0 (Kd.R_lt zz12)) (below_size zz3)) (blk_below zz9 hb) (blk_below zz10 hb) (blk_below zz21 hb) (below_step zz3 hb); clear HO_6 BK479 BK480 BK484 HB; obtain ⟨HO_6, HO495, BK479, BK480, BK484, HB⟩ := n_; (try clear hb ho0); obtain ⟨Ao158, co158, eo158⟩ := Kd.R_slice HO495.out; subst eo158; have hnb159 := NB484_480.out; have hnc159 := NB480_484.out; obtain ⟨hcz160_0, hcz160_1, hcz160_2, hcz160_3, hcz160_4, hcz160_5⟩ := cz6 BK484.out; obtain ⟨hfz160_0, hfz160_1, hfz160_2, hfz160_3, hfz160_4, hfz160_5⟩ := fz6 BK484.out; obtain ⟨hcz161_0, hcz161_1, hcz161_2, hcz161_3, hcz161_4, hcz161_5⟩ := cz6 BK479.out; obtain ⟨hfz161_0, hfz161_1, hfz161_2, hfz161_3, hfz161_4, hfz161_5⟩ := fz6 BK479.out; obtain ⟨hcz162_0, hcz162_1, hcz162_2, hcz162_3, hcz162_4, hcz162_5⟩ := cz6 BK480.out; obtain ⟨hfz162_0, hfz162_1, hfz162_2, hfz162_3, hfz162_4, hfz162_5⟩ := fz6 BK480.out))
     refine bodyPost_ret (results_cell_row rfl _ _ gb480 24 #[.string t481, .string t482, .slice Ao158 t493.length co158, .int .i64 t483, .bool false, .bool true] (0, 0) _ rfl (by (with_reducible repeat (first | refine blk_drewN ?_ _ | refine blk_drew ?_ | refine blk_alloc ?_ _)); refine blk_put (cs := #[.string t481, .string t482, .slice Ao158 t493.length co158, .int .i64 t483, .bool false, .bool false]) ?_ 5 _ rfl; (with_reducible repeat (first | refine blk_drewN ?_ _ | refine blk_drew ?_ | refine blk_alloc ?_ _)); refine blk_put (cs := #[.string t481, .string t482, .slice Ao158 t493.length co158, .int .i64 t483, .bool false, .bool false]) ?_ 4 _ rfl; (with_reducible repeat (first | refine blk_drewN ?_ _ | refine blk_drew ?_ | refine blk_alloc ?_ _)); refine blk_put (cs := #[.string t481, .string t482, .slice Ao158 t493.length co158, .int .i64 0, .bool false, .bool false]) ?_ 3 _ rfl; (with_reducible repeat (first | refine blk_drewN ?_ _ | refine blk_drew ?_ | refine blk_alloc ?_ _)); refine blk_put (cs := #[.string t481, .string t482, .slice none 0 0, .int .i64 0, .bool false, .bool false]) ?_ 2 _ rfl; (with_reducible repeat (first | refine blk_drewN ?_ _ | refine blk_drew ?_ | refine blk_alloc ?_ _)); refine blk_put (cs := #[.string t481, .string (⟨#[]⟩ : ByteArray), .slice none 0 0, .int .i64 0, .bool false, .bool false]) ?_ 1 _ rfl; (with_reducible repeat (first | refine blk_drewN ?_ _ | refine blk_drew ?_ | refine blk_alloc ?_ _)); refine blk_put (cs := #[.string (⟨#[]⟩ : ByteArray), .string (⟨#[]⟩ : ByteArray), .slice none 0 0, .int .i64 0, .bool false, .bool false]) ?_ 0 _ rfl; (with_reducible repeat (first | refine blk_drewN ?_ _ | refine blk_drew ?_ | refine blk_alloc ?_ _)); refine blk_far ?_ NB480_484.out _; (with_reducible repeat (first | refine blk_drewN ?_ _ | refine blk_drew ?_ | refine blk_alloc ?_ _)); refine blk_far ?_ NB480_484.out _; (with_reducible repeat (first | refine blk_drewN ?_ _ | refine blk_drew ?_ | refine blk_alloc ?_ _)); refine blk_far ?_ NB480_484.out _; (with_reducible repeat (first | refine blk_drewN ?_ _ | refine blk_drew ?_ | refine blk_alloc ?_ _)); exact BK480.out) Tryz.underlying24 rfl zz34) rfl ?_
     exact ⟨_, zz4, by (with_reducible repeat (first | apply Kd.R_alloc | apply Kd.R_drewN | apply Kd.R_drew)); exact Kd.R_mono (Kd.R_far (p := ⟨gb480, 5, none⟩) (Kd.R_far (p := ⟨gb480, 4, none⟩) (Kd.R_far (p := ⟨gb480, 3, none⟩) (Kd.R_far (p := ⟨gb480, 2, none⟩) (Kd.R_far (p := ⟨gb480, 1, none⟩) (Kd.R_far (p := ⟨gb480, 0, none⟩) (Kd.R_far (p := ⟨gb484, 5, none⟩) (Kd.R_far (p := ⟨gb484, 4, none⟩) (Kd.R_far (p := ⟨gb484, 2, none⟩) (Kd.R_types (Kd.R_types HO495.out BK484.out (by decide)) BK480.out (by decide)) (fun _ hk => hk.1.2) (.slice Ao158 t493.length co158)) (fun _ hk => hk.1.2) (.bool false)) (fun _ hk => hk.1.2) (.bool true)) (fun _ hk => hk.2) (.string t481)) (fun _ hk => hk.2) (.string t482)) (fun _ hk => hk.2) (.slice Ao158 t493.length co158)) (fun _ hk => hk.2) (.int .i64 t483)) (fun _ hk => hk.2) (.bool false)) (fun _ hk => hk.2) (.bool true)) (fun _ hk => trivial), zz3⟩
    rw [if_neg c152] at H
    obtain ⟨c152b0, c152b1⟩ := eqF c152
    simp only [Option.some.injEq, Prod.mk.injEq] at H
    obtain ⟨rfl, rfl, rfl, rfl, rfl, rfl⟩ := H
    have hnb163 := NB479_480.out
    have hnc163 := NB480_479.out
    have hnb164 := NB479_484.out
    have hnc164 := NB484_479.out
    obtain ⟨hcz165_0, hcz165_1, hcz165_2, hcz165_3, hcz165_4, hcz165_5⟩ := cz6 BK479.out
    obtain ⟨hfz165_0, hfz165_1, hfz165_2, hfz165_3, hfz165_4, hfz165_5⟩ := fz6 BK479.out
    obtain ⟨Ao166, co166, eo166⟩ := Kd.R_slice HO_6.out
    subst eo166
    go_wp2_with (first | ((with_reducible refine gc 16 ?_); refine gL (some 40) Tryz.func16 #[.slice Ao166 x6_1.length co166] ?_; (with_reducible refine (cardexref08_Groups.calls _ _ x6_1 t493 _ ?side1 ?side2 A106.out).mono ?_); (case side1 => exact zz19); (case side2 => exact (Kd.R_reads' HO_6.out).2.1); rintro e w167 ⟨v494, rfl, ho0, hb⟩; refine ⟨_, rfl, ?_⟩; have n_ := as6 (Kd.R_elder' zz12 (Kd.R_base ho0) hb) (Kd.R_lower (Kd.R_new' ho0 (Kd.R_lt zz12)) (below_size zz3)) (blk_below zz9 hb) (blk_below zz10 hb) (blk_below zz21 hb) (below_step zz3 hb); clear HO_6 BK479 BK480 BK484 HB; obtain ⟨HO_6, HO495, BK479, BK480, BK484, HB⟩ := n_; (try clear hb ho0); obtain ⟨Ao168, co168, eo168⟩ := Kd.R_slice HO495.out; subst eo168; have hnb169 := NB484_480.out; have hnc169 := NB480_484.out; obtain ⟨hcz170_0, hcz170_1, hcz170_2, hcz170_3, hcz170_4, hcz170_5⟩ := cz6 BK484.out; obtain ⟨hfz170_0, hfz170_1, hfz170_2, hfz170_3, hfz170_4, hfz170_5⟩ := fz6 BK484.out; obtain ⟨hcz171_0, hcz171_1, hcz171_2, hcz171_3, hcz171_4, hcz171_5⟩ := cz6 BK479.out; obtain ⟨hfz171_0, hfz171_1, hfz171_2, hfz171_3, hfz171_4, hfz171_5⟩ := fz6 BK479.out; obtain ⟨hcz172_0, hcz172_1, hcz172_2, hcz172_3, hcz172_4, hcz172_5⟩ := cz6 BK480.out; obtain ⟨hfz172_0, hfz172_1, hfz172_2, hfz172_3, hfz172_4, hfz172_5⟩ := fz6 BK480.out))
    refine bodyPost_ret (results_cell_row rfl _ _ gb480 24 #[.string t481, .string t482, .slice Ao168 t493.length co168, .int .i64 t483, .bool false, .bool (t483 == 1)] (0, 0) _ rfl (by (with_reducible repeat (first | refine blk_drewN ?_ _ | refine blk_drew ?_ | refine blk_alloc ?_ _)); refine blk_put (cs := #[.string t481, .string t482, .slice Ao168 t493.length co168, .int .i64 t483, .bool false, .bool false]) ?_ 5 _ rfl; (with_reducible repeat (first | refine blk_drewN ?_ _ | refine blk_drew ?_ | refine blk_alloc ?_ _)); refine blk_put (cs := #[.string t481, .string t482, .slice Ao168 t493.length co168, .int .i64 t483, .bool false, .bool false]) ?_ 4 _ rfl; (with_reducible repeat (first | refine blk_drewN ?_ _ | refine blk_drew ?_ | refine blk_alloc ?_ _)); refine blk_put (cs := #[.string t481, .string t482, .slice Ao168 t493.length co168, .int .i64 0, .bool false, .bool false]) ?_ 3 _ rfl; (with_reducible repeat (first | refine blk_drewN ?_ _ | refine blk_drew ?_ | refine blk_alloc ?_ _)); refine blk_put (cs := #[.string t481, .string t482, .slice none 0 0, .int .i64 0, .bool false, .bool false]) ?_ 2 _ rfl; (with_reducible repeat (first | refine blk_drewN ?_ _ | refine blk_drew ?_ | refine blk_alloc ?_ _)); refine blk_put (cs := #[.string t481, .string (⟨#[]⟩ : ByteArray), .slice none 0 0, .int .i64 0, .bool false, .bool false]) ?_ 1 _ rfl; (with_reducible repeat (first | refine blk_drewN ?_ _ | refine blk_drew ?_ | refine blk_alloc ?_ _)); refine blk_put (cs := #[.string (⟨#[]⟩ : ByteArray), .string (⟨#[]⟩ : ByteArray), .slice none 0 0, .int .i64 0, .bool false, .bool false]) ?_ 0 _ rfl; (with_reducible repeat (first | refine blk_drewN ?_ _ | refine blk_drew ?_ | refine blk_alloc ?_ _)); refine blk_far ?_ NB480_484.out _; (with_reducible repeat (first | refine blk_drewN ?_ _ | refine blk_drew ?_ | refine blk_alloc ?_ _)); refine blk_far ?_ NB480_484.out _; (with_reducible repeat (first | refine blk_drewN ?_ _ | refine blk_drew ?_ | refine blk_alloc ?_ _)); refine blk_far ?_ NB480_484.out _; (with_reducible repeat (first | refine blk_drewN ?_ _ | refine blk_drew ?_ | refine blk_alloc ?_ _)); exact BK480.out) Tryz.underlying24 rfl zz34) rfl ?_
    exact ⟨_, zz4, by (with_reducible repeat (first | apply Kd.R_alloc | apply Kd.R_drewN | apply Kd.R_drew)); exact Kd.R_mono (Kd.R_far (p := ⟨gb480, 5, none⟩) (Kd.R_far (p := ⟨gb480, 4, none⟩) (Kd.R_far (p := ⟨gb480, 3, none⟩) (Kd.R_far (p := ⟨gb480, 2, none⟩) (Kd.R_far (p := ⟨gb480, 1, none⟩) (Kd.R_far (p := ⟨gb480, 0, none⟩) (Kd.R_far (p := ⟨gb484, 5, none⟩) (Kd.R_far (p := ⟨gb484, 4, none⟩) (Kd.R_far (p := ⟨gb484, 2, none⟩) (Kd.R_types (Kd.R_types HO495.out BK484.out (by decide)) BK480.out (by decide)) (fun _ hk => hk.1.2) (.slice Ao168 t493.length co168)) (fun _ hk => hk.1.2) (.bool false)) (fun _ hk => hk.1.2) (.bool (t483 == 1))) (fun _ hk => hk.2) (.string t481)) (fun _ hk => hk.2) (.string t482)) (fun _ hk => hk.2) (.slice Ao168 t493.length co168)) (fun _ hk => hk.2) (.int .i64 t483)) (fun _ hk => hk.2) (.bool false)) (fun _ hk => hk.2) (.bool (t483 == 1))) (fun _ hk => trivial), zz3⟩
   replace c151 := Bool.eq_false_iff.mpr c151
   subst c151
   have H1 : (some (t481, t482, t493, t483, false, false)) = some (r1, r2, r3, r4, r5, r6) := by rw [if_neg (show ¬ (false = true) by decide)] at H; exact H
   clear H
   have H := H1
   clear H1
   simp only [Option.some.injEq, Prod.mk.injEq] at H
   obtain ⟨rfl, rfl, rfl, rfl, rfl, rfl⟩ := H
   have hnb173 := NB479_480.out
   have hnc173 := NB480_479.out
   have hnb174 := NB479_484.out
   have hnc174 := NB484_479.out
   obtain ⟨hcz175_0, hcz175_1, hcz175_2, hcz175_3, hcz175_4, hcz175_5⟩ := cz6 BK479.out
   obtain ⟨hfz175_0, hfz175_1, hfz175_2, hfz175_3, hfz175_4, hfz175_5⟩ := fz6 BK479.out
   obtain ⟨Ao176, co176, eo176⟩ := Kd.R_slice HO_6.out
   subst eo176
   go_wp2_with (first | ((with_reducible refine gc 16 ?_); refine gL (some 40) Tryz.func16 #[.slice Ao176 x6_1.length co176] ?_; (with_reducible refine (cardexref08_Groups.calls _ _ x6_1 t493 _ ?side1 ?side2 A106.out).mono ?_); (case side1 => exact zz19); (case side2 => exact (Kd.R_reads' HO_6.out).2.1); rintro e w177 ⟨v494, rfl, ho0, hb⟩; refine ⟨_, rfl, ?_⟩; have n_ := as6 (Kd.R_elder' zz12 (Kd.R_base ho0) hb) (Kd.R_lower (Kd.R_new' ho0 (Kd.R_lt zz12)) (below_size zz3)) (blk_below zz9 hb) (blk_below zz10 hb) (blk_below zz21 hb) (below_step zz3 hb); clear HO_6 BK479 BK480 BK484 HB; obtain ⟨HO_6, HO495, BK479, BK480, BK484, HB⟩ := n_; (try clear hb ho0); obtain ⟨Ao178, co178, eo178⟩ := Kd.R_slice HO495.out; subst eo178; have hnb179 := NB484_480.out; have hnc179 := NB480_484.out; obtain ⟨hcz180_0, hcz180_1, hcz180_2, hcz180_3, hcz180_4, hcz180_5⟩ := cz6 BK484.out; obtain ⟨hfz180_0, hfz180_1, hfz180_2, hfz180_3, hfz180_4, hfz180_5⟩ := fz6 BK484.out; obtain ⟨hcz181_0, hcz181_1, hcz181_2, hcz181_3, hcz181_4, hcz181_5⟩ := cz6 BK479.out; obtain ⟨hfz181_0, hfz181_1, hfz181_2, hfz181_3, hfz181_4, hfz181_5⟩ := fz6 BK479.out; obtain ⟨hcz182_0, hcz182_1, hcz182_2, hcz182_3, hcz182_4, hcz182_5⟩ := cz6 BK480.out; obtain ⟨hfz182_0, hfz182_1, hfz182_2, hfz182_3, hfz182_4, hfz182_5⟩ := fz6 BK480.out))
   refine bodyPost_ret (results_cell_row rfl _ _ gb480 24 #[.string t481, .string t482, .slice Ao178 t493.length co178, .int .i64 t483, .bool false, .bool false] (0, 0) _ rfl (by (with_reducible repeat (first | refine blk_drewN ?_ _ | refine blk_drew ?_ | refine blk_alloc ?_ _)); refine blk_put (cs := #[.string t481, .string t482, .slice Ao178 t493.length co178, .int .i64 t483, .bool false, .bool false]) ?_ 5 _ rfl; (with_reducible repeat (first | refine blk_drewN ?_ _ | refine blk_drew ?_ | refine blk_alloc ?_ _)); refine blk_put (cs := #[.string t481, .string t482, .slice Ao178 t493.length co178, .int .i64 t483, .bool false, .bool false]) ?_ 4 _ rfl; (with_reducible repeat (first | refine blk_drewN ?_ _ | refine blk_drew ?_ | refine blk_alloc ?_ _)); refine blk_put (cs := #[.string t481, .string t482, .slice Ao178 t493.length co178, .int .i64 0, .bool false, .bool false]) ?_ 3 _ rfl; (with_reducible repeat (first | refine blk_drewN ?_ _ | refine blk_drew ?_ | refine blk_alloc ?_ _)); refine blk_put (cs := #[.string t481, .string t482, .slice none 0 0, .int .i64 0, .bool false, .bool false]) ?_ 2 _ rfl; (with_reducible repeat (first | refine blk_drewN ?_ _ | refine blk_drew ?_ | refine blk_alloc ?_ _)); refine blk_put (cs := #[.string t481, .string (⟨#[]⟩ : ByteArray), .slice none 0 0, .int .i64 0, .bool false, .bool false]) ?_ 1 _ rfl; (with_reducible repeat (first | refine blk_drewN ?_ _ | refine blk_drew ?_ | refine blk_alloc ?_ _)); refine blk_put (cs := #[.string (⟨#[]⟩ : ByteArray), .string (⟨#[]⟩ : ByteArray), .slice none 0 0, .int .i64 0, .bool false, .bool false]) ?_ 0 _ rfl; (with_reducible repeat (first | refine blk_drewN ?_ _ | refine blk_drew ?_ | refine blk_alloc ?_ _)); refine blk_far ?_ NB480_484.out _; (with_reducible repeat (first | refine blk_drewN ?_ _ | refine blk_drew ?_ | refine blk_alloc ?_ _)); refine blk_far ?_ NB480_484.out _; (with_reducible repeat (first | refine blk_drewN ?_ _ | refine blk_drew ?_ | refine blk_alloc ?_ _)); refine blk_far ?_ NB480_484.out _; (with_reducible repeat (first | refine blk_drewN ?_ _ | refine blk_drew ?_ | refine blk_alloc ?_ _)); exact BK480.out) Tryz.underlying24 rfl zz34) rfl ?_
   exact ⟨_, zz4, by (with_reducible repeat (first | apply Kd.R_alloc | apply Kd.R_drewN | apply Kd.R_drew)); exact Kd.R_mono (Kd.R_far (p := ⟨gb480, 5, none⟩) (Kd.R_far (p := ⟨gb480, 4, none⟩) (Kd.R_far (p := ⟨gb480, 3, none⟩) (Kd.R_far (p := ⟨gb480, 2, none⟩) (Kd.R_far (p := ⟨gb480, 1, none⟩) (Kd.R_far (p := ⟨gb480, 0, none⟩) (Kd.R_far (p := ⟨gb484, 5, none⟩) (Kd.R_far (p := ⟨gb484, 4, none⟩) (Kd.R_far (p := ⟨gb484, 2, none⟩) (Kd.R_types (Kd.R_types HO495.out BK484.out (by decide)) BK480.out (by decide)) (fun _ hk => hk.1.2) (.slice Ao178 t493.length co178)) (fun _ hk => hk.1.2) (.bool false)) (fun _ hk => hk.1.2) (.bool false)) (fun _ hk => hk.2) (.string t481)) (fun _ hk => hk.2) (.string t482)) (fun _ hk => hk.2) (.slice Ao178 t493.length co178)) (fun _ hk => hk.2) (.int .i64 t483)) (fun _ hk => hk.2) (.bool false)) (fun _ hk => hk.2) (.bool false)) (fun _ hk => trivial), zz3⟩
end Go.Proofs.YtaekklpphlcngaaGreatDoor.Q
