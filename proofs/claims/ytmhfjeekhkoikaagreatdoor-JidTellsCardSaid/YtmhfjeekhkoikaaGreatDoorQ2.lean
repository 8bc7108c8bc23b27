-- Written by hookprint.py (wip/) of this session: the kit's print with hand-proved functions beside it. Not trusted: Lean checks it.
import Derived.Test.YtmhfjeekhkoikaaGreatDoorQ0
namespace Go.Proofs.YtmhfjeekhkoikaaGreatDoor.Q
open Go.RowKit Go.Lib Go.Proofs.YtmhfjeekhkoikaaGreatDoorX Go.Proofs.YtmhfjeekhkoikaaGreatDoorW.PrintWords Go.Proofs.YtmhfjeekhkoikaaGreatDoorW.PrintLast Go.Proofs.YtmhfjeekhkoikaaGreatDoorW.PrintMore
set_option linter.unusedVariables false
set_option linter.unusedSimpArgs false
-- NOT PRINTED: function 93 (utf8_ValidString)
set_option maxHeartbeats 1000000 in
theorem slices_IndexFunc_rune_rune.hof (A0 : Option Addr) (c0 : Nat) (l0 : List Int) (F : Nat) (caps : Array Value) (g : Int → Bool) (w : World)
    (hr0 : Kd.C (Kd.int .i32) w A0 l0.length l0) (hl : l0.length ≤ 140737488351232) (hF : IsFn Tryz.prog F)
    (hg : ∀ (x : Int) (W : World), x ∈ l0 → Below w.heap.size w W → Calls Tryz.prog F (#[.int .i32 x] ++ caps) W fun e W' => e = .returned (.bool (g x)) ∧ Below W.heap.size W W') :
    Calls Tryz.prog 109 #[.slice A0 l0.length c0, .func (.func F) #[] caps] w fun e w' => e = .returned (.int .i64 (idxP g l0)) ∧ Below w.heap.size w w' := by
  have HB := Aside0.mk (Below.refl w.heap.size w)
  have HR := Aside0.mk hr0
  have HG := Aside0.mk hg
  clear hr0 hg
  go_enter Tryz.func109, Tryz.ntmps109
  go_wp2
  go_loopg [5, 8] (l0.length + 1) (fun gk v5 v8 wr => ∃ i : Nat, i ≤ l0.length ∧ v8 = .int .i64 i ∧ Aside0 (∀ j (hj : j < i) (hj' : j < l0.length), g (l0[j]'hj') = false) ∧ l0.length < gk + i ∧ Aside0 (Below w.heap.size w wr))
  case atStart => exact ⟨0, Nat.zero_le _, rfl, ⟨fun j hj => absurd hj (by omega)⟩, by omega, HB⟩
  case round =>
    clear HB
    obtain ⟨i, hi, rfl, HN, hk, HB⟩ := hrel
    by_cases hlt : i < l0.length
    · obtain ⟨k', rfl⟩ : ∃ k', gk = k' + 1 := ⟨gk - 1, by omega⟩
      have hltz : (i : Int) < (l0.length : Int) := by omega
      obtain ⟨ad, e1, hx⟩ := Kd.at_int (Kd.C_below HR.out HB.out) (i : Int) (by omega) (by omega)
      cases e1
      rw [Int.toNat_natCast, rd_get l0 i hlt] at hx
      obtain ⟨x, hxx⟩ : ∃ x, l0[i] = x := ⟨_, rfl⟩
      rw [hxx] at hx
      have HX := Aside0.mk hxx
      clear hxx
      cases hgx : g x with
      | true =>
        have HGX := Aside0.mk hgx
        clear hgx
        go_wp2_with (first | ((with_reducible refine gate_value rfl ?_); refine goesV (some 16) rfl rfl rfl rfl hF #[.int .i32 x] (by simp only [List.map_toArray, List.map_cons, List.map_nil]; rfl) ?_; (with_reducible refine (HG.out x _ (mem_of_getElem HX.out) HB.out).mono ?_); rintro e w4 ⟨rfl, hb⟩; refine ⟨_, rfl, ?_⟩; have HB2 := Aside0.mk (below_step HB.out hb); clear HB hb; rw [HGX.out]))
        go_ret
        exact ⟨by rw [idxP_hit hlt (fun j hj => HN.out j hj _) (by rw [HX.out]; exact HGX.out)]; rfl, HB2.out⟩
      | false =>
        have HGX := Aside0.mk hgx
        clear hgx
        go_wp2_with (first | ((with_reducible refine gate_value rfl ?_); refine goesV (some 16) rfl rfl rfl rfl hF #[.int .i32 x] (by simp only [List.map_toArray, List.map_cons, List.map_nil]; rfl) ?_; (with_reducible refine (HG.out x _ (mem_of_getElem HX.out) HB.out).mono ?_); rintro e w4 ⟨rfl, hb⟩; refine ⟨_, rfl, ?_⟩; have HB2 := Aside0.mk (below_step HB.out hb); clear HB hb; rw [HGX.out]))
        go_roundg k'
        case measure => omega
        case rel => exact ⟨i + 1, by omega, by go_num, ⟨fun j hj hj' => by
          rcases Nat.lt_or_ge j i with h | h
          · exact HN.out j h hj'
          · obtain rfl : j = i := by omega
            rw [HX.out]; exact HGX.out⟩, by omega, HB2⟩
    · have : i = l0.length := by omega
      subst this
      go_wp2
      go_ret
      exact ⟨by rw [idxP_none (fun j hj => HN.out j hj hj)]; rfl, HB.out⟩
theorem slices_ContainsFunc_rune_rune.hof (A0 : Option Addr) (c0 : Nat) (l0 : List Int) (F : Nat) (caps : Array Value) (g : Int → Bool) (w : World)
    (hr0 : Kd.C (Kd.int .i32) w A0 l0.length l0) (hl : l0.length ≤ 140737488351232) (hF : IsFn Tryz.prog F)
    (hg : ∀ (x : Int) (W : World), x ∈ l0 → Below w.heap.size w W → Calls Tryz.prog F (#[.int .i32 x] ++ caps) W fun e W' => e = .returned (.bool (g x)) ∧ Below W.heap.size W W') :
    Calls Tryz.prog 105 #[.slice A0 l0.length c0, .func (.func F) #[] caps] w fun e w' => e = .returned (.bool (l0.any g)) ∧ Below w.heap.size w w' := by
  have H := Aside0.mk (slices_IndexFunc_rune_rune.hof A0 c0 l0 F caps g w hr0 hl hF hg)
  clear hr0 hg hl
  go_enter Tryz.func105, Tryz.ntmps105
  go_wp2_with (go_at_call 109; (with_reducible refine H.out.mono ?_); rintro e w' ⟨rfl, hb⟩; have HB := Aside0.mk hb; clear hb H)
  go_ret
  exact ⟨by rw [← idxP_any]; rfl, HB.out⟩
theorem utf_each_rune_1.hof (x : Int) (b : Nat) (F : Nat) (caps : Array Value) (g : Int → Bool) (w : World) (hF : IsFn Tryz.prog F)
    (hc : w.cell? ⟨b, 0, none⟩ = some (.func (.func F) #[] caps))
    (hg : Calls Tryz.prog F (#[.int .i32 x] ++ caps) w fun e W' => e = .returned (.bool (g x)) ∧ Below w.heap.size w W') :
    Calls Tryz.prog 106 #[.int .i32 x, .pointer (some ⟨b, 0, none⟩)] w fun e w' => e = .returned (.bool (!g x)) ∧ Below w.heap.size w w' := by
  have HG := Aside0.mk hg
  clear hg
  go_enter Tryz.func106, Tryz.ntmps106
  go_wp2_with (first | ((with_reducible refine gate_value rfl ?_); refine goesV (some 6) rfl rfl rfl rfl hF #[.int .i32 x] (by simp only [List.map_toArray, List.map_cons, List.map_nil]; rfl) ?_; (with_reducible refine HG.out.mono ?_); rintro e w4 ⟨rfl, hb⟩; refine ⟨_, rfl, ?_⟩; have HB2 := Aside0.mk hb; clear hb HG))
  go_ret
  exact ⟨rfl, HB2.out⟩
theorem utf_each_rune.hof (A0 : Option Addr) (c0 : Nat) (l0 : List Int) (F : Nat) (caps : Array Value) (g : Int → Bool) (w : World)
    (hr0 : Kd.C (Kd.int .i32) w A0 l0.length l0) (hl : l0.length ≤ 140737488351232) (hF : IsFn Tryz.prog F)
    (hg : ∀ (x : Int) (W : World), x ∈ l0 → Below w.heap.size w W → Calls Tryz.prog F (#[.int .i32 x] ++ caps) W fun e W' => e = .returned (.bool (g x)) ∧ Below W.heap.size W W') :
    Calls Tryz.prog 94 #[.slice A0 l0.length c0, .func (.func F) #[] caps] w fun e w' => e = .returned (.bool (l0.all g)) ∧ Below w.heap.size w w' := by
  have HR := Aside0.mk hr0
  have HG := Aside0.mk hg
  clear hr0 hg
  have hF1 : IsFn Tryz.prog 106 := ⟨⟨_, Tryz.func106, by kernel_rfl, rfl⟩⟩
  go_enter Tryz.func94, Tryz.ntmps94
  go_wp2_with (go_at_call 105; go_must (refine (slices_ContainsFunc_rune_rune.hof A0 c0 l0 106 #[.pointer (some ⟨w.heap.size, 0, none⟩)] (fun x => !g x) _ (Kd.C_below HR.out (below_alloc (Below.refl _ _) _)) hl hF1 (fun x W hx hb => utf_each_rune_1.hof x _ F caps g W hF (box_cell hb) (HG.out x W hx (below_a hb)))).mono ?_); rintro e w' ⟨rfl, hb⟩; have HB := Aside0.mk (below_a hb); clear hb HG HR)
  go_ret
  exact ⟨by rw [show l0.all g = !(l0.any fun x => !g x) from by rw [List.all_eq_not_any_not]]; rfl, HB.out⟩
set_option maxRecDepth 100000 in
theorem utf_text.hof (s : ByteArray) (F : Nat) (caps : Array Value) (g : Int → Bool) (w : World) (hs : s.size ≤ 70368744177664) (hT : Tabs w) (hF : IsFn Tryz.prog F)
    (hg : ∀ (x : Int) (W : World), x ∈ runesI s → Below w.heap.size w W → Calls Tryz.prog F (#[.int .i32 x] ++ caps) W fun e W' => e = .returned (.bool (g x)) ∧ Below W.heap.size W W') :
    Calls Tryz.prog 71 #[.string s, .func (.func F) #[] caps] w fun e w' => e = .returned (.bool (validD s.data.toList && (runesI s).all g)) ∧ Below w.heap.size w w' := by
  have HG := Aside0.mk hg
  have HV := Aside0.mk (Tryz.utf8_ValidString s w (by omega) hT.1)
  have HS := Aside0.mk hs
  clear hg hT hs
  cases hv : validD s.data.toList with
  | false =>
    rw [hv] at HV
    clear hv
    go_enter Tryz.func71, Tryz.ntmps71
    go_wp2_with (go_at_call 93; (with_reducible refine HV.out.mono ?_); rintro e w' ⟨rfl, hb⟩; have HB := Aside0.mk hb; clear hb HV)
    go_ret
    exact ⟨rfl, HB.out⟩
  | true =>
    rw [hv] at HV
    clear hv
    have kc := fun W : World => run_runesI (P := Tryz.prog) W 9 88 21 s Tryz.underlying9 Tryz.underlying88 Tryz.underlying21 HS.out
    go_enter Tryz.func71, Tryz.ntmps71
    go_wp2_with (first | (go_at_call 93; (with_reducible refine HV.out.mono ?_); rintro e w1 ⟨rfl, hb⟩; have HB := Aside0.mk hb; clear hb HV) | (go_at_call 94; go_must (refine (utf_each_rune.hof _ _ (runesI s) F caps g _ (runes_C HS.out (below_drew (Below.refl _ _))) (by have := runesI_len s; have := HS.out; omega) hF (fun x W hx hb => HG.out x W hx (below2 (below_drew (below_alloc HB.out _)) hb))).mono ?_); rintro e w2 ⟨rfl, hb⟩; have HB2 := Aside0.mk (below2 (below_drew (below_alloc HB.out _)) hb); clear hb HB HG))
    go_ret
    exact ⟨rfl, HB2.out⟩
def utf_span_rune_has.f (a0_0 : Int) (a0_1 : Int) (a1 : Int) : Option (Bool) := if a1 ≥ a0_0 then (some (decide (a1 ≤ a0_1))) else (some false)
set_option maxHeartbeats 8000000 in
set_option maxRecDepth 100000 in
theorem utf_span_rune_has.calls (a0_0 : Int) (a0_1 : Int) (a1 : Int) (r : Bool) (w : World) (h : utf_span_rune_has.f a0_0 a0_1 a1 = some r) :
    Calls Tryz.prog 107 #[.agg #[.int .i32 a0_0, .int .i32 a0_1], .int .i32 a1] w fun e w' => e = .returned (.bool r) ∧ Below w.heap.size w w' := by
  have hu102 := Tryz.underlying102
  have HB := Aside0.mk (Below.refl w.heap.size w)
  have H : (if a1 ≥ a0_0 then (some (decide (a1 ≤ a0_1))) else (some false)) = some r := h
  clear h
  by_cases c3 : a1 ≥ a0_0
  · rw [if_pos c3] at H
    have c3b0 : decide (a0_0 ≤ a1) = true := decide_eq_true c3
    clear c3
    obtain rfl := Option.some.inj H
    go_enter Tryz.func107, Tryz.ntmps107
    go_wp2_with (first | ((with_reducible refine gate_dst (N := 2) rfl ?_); refine box_event ?hg (N := 2) ?hd (cs := #[.int .i32 a0_0, .int .i32 a0_1]) (t := 102) ?hr ?_; (case hd => rfl); (case hg => rfl); (case hr => first | (go_simp; done) | (go_simp; rfl)); intro gb108 hg w4 hbox hb; have n0_ := Aside0.mk (below_step (by repeat (first | (with_reducible first | exact HB.out | apply below_alloc | apply pw_below_drewN | apply below_drew1) | exact HB.out)) hb); have n1_ := Aside0.mk (hbox); have n2_ := Aside0.mk ((by rw [hg]; exact (below_size (by repeat (first | (with_reducible first | exact HB.out | apply below_alloc | apply pw_below_drewN | apply below_drew1) | exact HB.out))) : w.heap.size ≤ gb108)); have n3_ := Aside0.mk ((by rw [hg]; exact (below_size (by repeat (first | (with_reducible first | exact HB.out | apply below_alloc | apply pw_below_drewN | apply below_drew1) | exact HB.out))) : w.heap.size ≤ gb108)); clear HB; have HB := n0_; have BK108 := n1_; have GW108 := n2_; have GE108 := n3_; clear n0_ n1_ n2_ n3_; clear hb hbox hg; have hcz5_0 : w4.cell? ⟨gb108, 0, none⟩ = some (.int .i32 a0_0) := (blk_cell BK108.out 0).trans rfl; have hcz5_1 : w4.cell? ⟨gb108, 1, none⟩ = some (.int .i32 a0_1) := (blk_cell BK108.out 1).trans rfl; have hfz5_0 := blk_frozen BK108.out 0; have hfz5_1 := blk_frozen BK108.out 1))
    go_ret
    exact ⟨by first | rfl | (simp [errW_none, errW_some] <;> rfl) | (simp [*, errW_none, errW_some] <;> rfl), by repeat (first | (with_reducible first | exact HB.out | apply below_alloc | apply pw_below_drewN | apply below_drew1 | refine below_set ?_ GE108.out) | exact HB.out)⟩
  · rw [if_neg c3] at H
    have c3b0 : decide (a0_0 ≤ a1) = false := decide_eq_false c3
    clear c3
    obtain rfl := Option.some.inj H
    go_enter Tryz.func107, Tryz.ntmps107
    go_wp2_with (first | ((with_reducible refine gate_dst (N := 2) rfl ?_); refine box_event ?hg (N := 2) ?hd (cs := #[.int .i32 a0_0, .int .i32 a0_1]) (t := 102) ?hr ?_; (case hd => rfl); (case hg => rfl); (case hr => first | (go_simp; done) | (go_simp; rfl)); intro gb108 hg w6 hbox hb; have n0_ := Aside0.mk (below_step (by repeat (first | (with_reducible first | exact HB.out | apply below_alloc | apply pw_below_drewN | apply below_drew1) | exact HB.out)) hb); have n1_ := Aside0.mk (hbox); have n2_ := Aside0.mk ((by rw [hg]; exact (below_size (by repeat (first | (with_reducible first | exact HB.out | apply below_alloc | apply pw_below_drewN | apply below_drew1) | exact HB.out))) : w.heap.size ≤ gb108)); have n3_ := Aside0.mk ((by rw [hg]; exact (below_size (by repeat (first | (with_reducible first | exact HB.out | apply below_alloc | apply pw_below_drewN | apply below_drew1) | exact HB.out))) : w.heap.size ≤ gb108)); clear HB; have HB := n0_; have BK108 := n1_; have GW108 := n2_; have GE108 := n3_; clear n0_ n1_ n2_ n3_; clear hb hbox hg; have hcz7_0 : w6.cell? ⟨gb108, 0, none⟩ = some (.int .i32 a0_0) := (blk_cell BK108.out 0).trans rfl; have hcz7_1 : w6.cell? ⟨gb108, 1, none⟩ = some (.int .i32 a0_1) := (blk_cell BK108.out 1).trans rfl; have hfz7_0 := blk_frozen BK108.out 0; have hfz7_1 := blk_frozen BK108.out 1))
    go_ret
    exact ⟨by first | rfl | (simp [errW_none, errW_some] <;> rfl) | (simp [*, errW_none, errW_some] <;> rfl), by repeat (first | (with_reducible first | exact HB.out | apply below_alloc | apply pw_below_drewN | apply below_drew1 | refine below_set ?_ GE108.out) | exact HB.out)⟩
def utf_shown.f (a0 : Int) : Option (Bool) := (utf_span_rune_has.f 32 65533 a0).bind fun t109 => (if t109 = true then (some true) else ((utf_span_rune_has.f 65536 1114111 a0).bind fun t110 => (some t110)))
set_option maxHeartbeats 8000000 in
set_option maxRecDepth 100000 in
theorem utf_shown.calls (a0 : Int) (r : Bool) (w : World) (h : utf_shown.f a0 = some r) :
    Calls Tryz.prog 95 #[.int .i32 a0] w fun e w' => e = .returned (.bool r) ∧ Below w.heap.size w w' := by
  have hu102 := Tryz.underlying102
  have HB := Aside0.mk (Below.refl w.heap.size w)
  have H : ((utf_span_rune_has.f 32 65533 a0).bind fun t109 => (if t109 = true then (some true) else ((utf_span_rune_has.f 65536 1114111 a0).bind fun t110 => (some t110)))) = some r := h
  clear h
  replace H := Option.bind_eq_some_iff.mp H
  obtain ⟨t109, A20, H⟩ := H
  replace H : (if t109 = true then (some true) else ((utf_span_rune_has.f 65536 1114111 a0).bind fun t110 => (some t110))) = some r := H
  have A2 := Aside0.mk A20
  clear A20
  by_cases c3 : t109 = true
  · subst c3
    have H1 : (some true) = some r := by rw [if_pos rfl] at H; exact H
    clear H
    have H := H1
    clear H1
    obtain rfl := Option.some.inj H
    go_enter Tryz.func95, Tryz.ntmps95
    go_wp2_with (first | ((with_reducible refine gate_callee (f := 107) rfl ?_); refine goesL_ (some 5) rfl rfl Tryz.func107 (by kernel_rfl) rfl #[.agg #[.int .i32 32, .int .i32 65533], .int .i32 a0] rfl (by (try simp only [List.map_toArray, List.map_cons, List.map_nil]); first | done | rfl | (simp only [List.length_drop, List.length_take]; rfl)) ?_; (with_reducible refine (utf_span_rune_has.calls 32 65533 a0 true _ A2.out).mono ?_); rintro e w4 ⟨rfl, hb⟩; refine ⟨_, rfl, ?_⟩; have n0_ := Aside0.mk (below_step (by repeat (first | (with_reducible first | exact HB.out | apply below_alloc | apply pw_below_drewN | apply below_drew1) | exact HB.out)) hb); clear HB; have HB := n0_; clear n0_; (try clear hb); (try clear hb2); (try clear hk); (try clear hi)))
    go_ret
    exact ⟨by first | rfl | (simp [errW_none, errW_some] <;> rfl) | (simp [*, errW_none, errW_some] <;> rfl), by repeat (first | (with_reducible first | exact HB.out | apply below_alloc | apply pw_below_drewN | apply below_drew1) | exact HB.out)⟩
  · replace c3 := Bool.eq_false_iff.mpr c3
    subst c3
    have H1 : ((utf_span_rune_has.f 65536 1114111 a0).bind fun t110 => (some t110)) = some r := by rw [if_neg (show ¬ (false = true) by decide)] at H; exact H
    clear H
    have H := H1
    clear H1
    replace H := Option.bind_eq_some_iff.mp H
    obtain ⟨t110, A50, H⟩ := H
    replace H : (some t110) = some r := H
    have A5 := Aside0.mk A50
    clear A50
    obtain rfl := Option.some.inj H
    go_enter Tryz.func95, Tryz.ntmps95
    go_wp2_with (first | ((with_reducible refine gate_callee (f := 107) rfl ?_); refine goesL_ (some 5) rfl rfl Tryz.func107 (by kernel_rfl) rfl #[.agg #[.int .i32 32, .int .i32 65533], .int .i32 a0] rfl (by (try simp only [List.map_toArray, List.map_cons, List.map_nil]); first | done | rfl | (simp only [List.length_drop, List.length_take]; rfl)) ?_; (with_reducible refine (utf_span_rune_has.calls 32 65533 a0 false _ A2.out).mono ?_); rintro e w6 ⟨rfl, hb⟩; refine ⟨_, rfl, ?_⟩; have n0_ := Aside0.mk (below_step (by repeat (first | (with_reducible first | exact HB.out | apply below_alloc | apply pw_below_drewN | apply below_drew1) | exact HB.out)) hb); clear HB; have HB := n0_; clear n0_; (try clear hb); (try clear hb2); (try clear hk); (try clear hi)) | (go_at_call 107; (with_reducible refine (utf_span_rune_has.calls 65536 1114111 a0 t110 _ A5.out).mono ?_); rintro e w7 ⟨rfl, hb⟩; have n0_ := Aside0.mk (below_step (by repeat (first | (with_reducible first | exact HB.out | apply below_alloc | apply pw_below_drewN | apply below_drew1) | exact HB.out)) hb); clear HB; have HB := n0_; clear n0_; (try clear hb); (try clear hb2); (try clear hk); (try clear hi)))
    go_ret
    exact ⟨by first | rfl | (simp [errW_none, errW_some] <;> rfl) | (simp [*, errW_none, errW_some] <;> rfl), by repeat (first | (with_reducible first | exact HB.out | apply below_alloc | apply pw_below_drewN | apply below_drew1) | exact HB.out)⟩
def utf_may.f (a0 : Int) : Option (Bool) := if a0 = 9 then (some true) else (if a0 = 10 then (some true) else (if a0 = 13 then (some true) else ((utf_shown.f a0).bind fun t111 => (some t111))))
set_option maxHeartbeats 8000000 in
set_option maxRecDepth 100000 in
theorem utf_may.calls (a0 : Int) (r : Bool) (w : World) (h : utf_may.f a0 = some r) :
    Calls Tryz.prog 72 #[.int .i32 a0] w fun e w' => e = .returned (.bool r) ∧ Below w.heap.size w w' := by
  have HB := Aside0.mk (Below.refl w.heap.size w)
  have H : (if a0 = 9 then (some true) else (if a0 = 10 then (some true) else (if a0 = 13 then (some true) else ((utf_shown.f a0).bind fun t111 => (some t111))))) = some r := h
  clear h
  by_cases c2 : a0 = 9
  · rw [if_pos c2] at H
    have c2b0 : (a0 == 9) = true := beq_iff_eq.mpr c2
    have c2b1 : (a0 != 9) = false := bne_eq_false_iff_eq.mpr c2
    clear c2
    obtain rfl := Option.some.inj H
    go_enter Tryz.func72, Tryz.ntmps72
    go_wp2
    go_ret
    exact ⟨by first | rfl | (simp [errW_none, errW_some] <;> rfl) | (simp [*, errW_none, errW_some] <;> rfl), by repeat (first | (with_reducible first | exact HB.out | apply below_alloc | apply pw_below_drewN | apply below_drew1) | exact HB.out)⟩
  · rw [if_neg c2] at H
    have c2b0 : (a0 == 9) = false := beq_eq_false_iff_ne.mpr c2
    have c2b1 : (a0 != 9) = true := bne_iff_ne.mpr c2
    by_cases c3 : a0 = 10
    · rw [if_pos c3] at H
      have c3b0 : (a0 == 10) = true := beq_iff_eq.mpr c3
      have c3b1 : (a0 != 10) = false := bne_eq_false_iff_eq.mpr c3
      clear c3
      obtain rfl := Option.some.inj H
      go_enter Tryz.func72, Tryz.ntmps72
      go_wp2
      go_ret
      exact ⟨by first | rfl | (simp [errW_none, errW_some] <;> rfl) | (simp [*, errW_none, errW_some] <;> rfl), by repeat (first | (with_reducible first | exact HB.out | apply below_alloc | apply pw_below_drewN | apply below_drew1) | exact HB.out)⟩
    · rw [if_neg c3] at H
      have c3b0 : (a0 == 10) = false := beq_eq_false_iff_ne.mpr c3
      have c3b1 : (a0 != 10) = true := bne_iff_ne.mpr c3
      by_cases c4 : a0 = 13
      · rw [if_pos c4] at H
        have c4b0 : (a0 == 13) = true := beq_iff_eq.mpr c4
        have c4b1 : (a0 != 13) = false := bne_eq_false_iff_eq.mpr c4
        clear c4
        obtain rfl := Option.some.inj H
        go_enter Tryz.func72, Tryz.ntmps72
        go_wp2
        go_ret
        exact ⟨by first | rfl | (simp [errW_none, errW_some] <;> rfl) | (simp [*, errW_none, errW_some] <;> rfl), by repeat (first | (with_reducible first | exact HB.out | apply below_alloc | apply pw_below_drewN | apply below_drew1) | exact HB.out)⟩
      · rw [if_neg c4] at H
        have c4b0 : (a0 == 13) = false := beq_eq_false_iff_ne.mpr c4
        have c4b1 : (a0 != 13) = true := bne_iff_ne.mpr c4
        replace H := Option.bind_eq_some_iff.mp H
        obtain ⟨t111, A50, H⟩ := H
        replace H : (some t111) = some r := H
        have A5 := Aside0.mk A50
        clear A50
        obtain rfl := Option.some.inj H
        go_enter Tryz.func72, Tryz.ntmps72
        go_wp2_with (first | (go_at_call 95; (with_reducible refine (utf_shown.calls a0 t111 _ A5.out).mono ?_); rintro e w6 ⟨rfl, hb⟩; have n0_ := Aside0.mk (below_step (by repeat (first | (with_reducible first | exact HB.out | apply below_alloc | apply pw_below_drewN | apply below_drew1) | exact HB.out)) hb); clear HB; have HB := n0_; clear n0_; (try clear hb); (try clear hb2); (try clear hk); (try clear hi)))
        go_ret
        exact ⟨by first | rfl | (simp [errW_none, errW_some] <;> rfl) | (simp [*, errW_none, errW_some] <;> rfl), by repeat (first | (with_reducible first | exact HB.out | apply below_alloc | apply pw_below_drewN | apply below_drew1) | exact HB.out)⟩
def utf_Valid.f (a0 : ByteArray) : Option Bool := if a0.size ≤ 17592186044415 then some (validT a0) else none
theorem may_eq (x : Int) : utf_may.f x = some (mayB x) := by
  unfold utf_may.f utf_shown.f utf_span_rune_has.f mayB
  by_cases h1 : x = 9
  · simp [h1]
  by_cases h2 : x = 10
  · simp [h2]
  by_cases h3 : x = 13
  · simp [h3]
  by_cases h4 : x ≥ 32 <;> by_cases h5 : x ≤ 65533 <;> by_cases h6 : x ≥ 65536 <;> by_cases h7 : x ≤ 1114111 <;> simp [*]
theorem utf_Valid.calls (a0 : ByteArray) (r : Bool) (w : World) (h : utf_Valid.f a0 = some r) (hT : Tabs w) :
    Calls Tryz.prog 49 #[.string a0] w fun e w' => e = .returned (.bool r) ∧ Below w.heap.size w w' := by
  unfold utf_Valid.f at h
  split at h
  · rename_i hs
    obtain rfl := Option.some.inj h
    have hF : IsFn Tryz.prog 72 := ⟨⟨_, Tryz.func72, by kernel_rfl, rfl⟩⟩
    have H := Aside0.mk (utf_text.hof a0 72 #[] mayB w (by omega) hT hF (fun x W _ _ => utf_may.calls x _ W (may_eq x)))
    clear h hT hs
    go_enter Tryz.func49, Tryz.ntmps49
    go_wp2_with (go_at_call 71; (with_reducible refine H.out.mono ?_); rintro e w' ⟨rfl, hb⟩; have HB := Aside0.mk hb; clear hb H)
    go_ret
    exact ⟨rfl, HB.out⟩
  · cases h
theorem flat_take {α β : Type} (T : α → List β) (l : List α) (i : Nat) (h : i < l.length) {x : α} (hx : l[i] = x) : (l.take i).flatMap T ++ T x = (l.take (i + 1)).flatMap T := by
  rw [List.take_succ_eq_append_getElem h, List.flatMap_append, hx]; simp
set_option maxHeartbeats 4000000 in
set_option maxRecDepth 100000 in
theorem prep_mapped_int.hof (A0 : Option Addr) (c0 : Nat) (l0 : List Int) (F : Nat) (caps : Array Value) (Tn : Int → List Int) (w : World)
    (hr0 : Kd.C (Kd.int .i64) w A0 l0.length l0) (hl : l0.length ≤ 140737488351232) (hF : IsFn Tryz.prog F) (hm : (l0.flatMap Tn).length ≤ 17592186044416)
    (hg : ∀ (x : Int) (W : World), x ∈ l0 → Below w.heap.size w W → Calls Tryz.prog F (#[.int .i64 x] ++ caps) W fun e W' => ∃ v, e = .returned v ∧ Kd.R (Kd.int .i64) 3 W' W.heap.size (fun _ => True) v (Tn x) ∧ Below W.heap.size W W') :
    Calls Tryz.prog 50 #[.slice A0 l0.length c0, .func (.func F) #[] caps] w fun e w' => ∃ v0_ : Value, e = .returned (v0_) ∧ Kd.R (Kd.int .i64) 3 w' w.heap.size (fun _ => True) v0_ (l0.flatMap Tn) ∧ Below w.heap.size w w' := by
  have HB := Aside0.mk (Below.refl w.heap.size w)
  have HR := Aside0.mk hr0
  have HG := Aside0.mk hg
  have HM := Aside0.mk hm
  clear hr0 hg hm
  go_enter Tryz.func50, Tryz.ntmps50
  go_wp2
  go_loopg [5, 10] (l0.length + 1) (fun gk v5 v10 wr => ∃ i : Nat, i ≤ l0.length ∧ v10 = .int .i64 i ∧ l0.length < gk + i ∧ Aside0 (Kd.R (Kd.int .i64) 3 wr w.heap.size (fun _ => True) v5 ((l0.take i).flatMap Tn)) ∧ Aside0 (Below w.heap.size w wr))
  case atStart => exact ⟨0, Nat.zero_le _, rfl, by omega, ⟨Kd.R_nil _ _ _ _ _⟩, HB⟩
  case round =>
    clear HB
    obtain ⟨i, hi, rfl, hk, HO, HB⟩ := hrel
    by_cases hlt : i < l0.length
    · obtain ⟨k', rfl⟩ : ∃ k', gk = k' + 1 := ⟨gk - 1, by omega⟩
      have hltz : (i : Int) < (l0.length : Int) := by omega
      obtain ⟨ad, e1, hx⟩ := Kd.at_int (Kd.C_below HR.out HB.out) (i : Int) (by omega) (by omega)
      cases e1
      rw [Int.toNat_natCast, rd_get l0 i hlt] at hx
      obtain ⟨x, hxx⟩ : ∃ x, l0[i] = x := ⟨_, rfl⟩
      rw [hxx] at hx
      have HX := Aside0.mk hxx
      have HL := Aside0.mk (show ((l0.take i).flatMap Tn ++ Tn x).length ≤ 17592186044416 by
        rw [flat_take Tn l0 i hlt hxx]
        refine Nat.le_trans ?_ HM.out
        have : l0.flatMap Tn = (l0.take (i + 1)).flatMap Tn ++ (l0.drop (i + 1)).flatMap Tn := by rw [← List.flatMap_append, List.take_append_drop]
        rw [this, List.length_append]; omega)
      obtain ⟨acc, hacc⟩ : ∃ acc, (l0.take i).flatMap Tn = acc := ⟨_, rfl⟩
      have HA := Aside0.mk hacc
      rw [hacc] at HO HL
      clear hxx hacc
      go_wp2_with (first | ((with_reducible refine gate_value rfl ?_); refine goesV (some 17) rfl rfl rfl rfl hF #[.int .i64 x] (by simp only [List.map_toArray, List.map_cons, List.map_nil]; rfl) ?_; (with_reducible refine (HG.out x _ (mem_of_getElem HX.out) HB.out).mono ?_); rintro e w4 ⟨v, rfl, ho, hb⟩; refine ⟨_, rfl, ?_⟩; obtain ⟨A4, c4, rfl, hl4, hC4⟩ := Kd.R_reads ho; have HB2 := Aside0.mk (below_step HB.out hb); have HO2 := Aside0.mk (Kd.R_below HO.out hb); have HC4 := Aside0.mk hC4; clear HB HO hb ho hC4 hl4) | ((with_reducible refine gate_builtin (b := .append) (xs := #[.tmp 14, .tmp 17]) rfl ?_); at_builtin; refine Kd.R_append_rows (Kd.int .i64) (w0 := w) w.heap.size rfl (.tmp 14) (.tmp 17) 50 3 (.int .i64 0) 8 rfl Tryz.underlying50 info3 rfl (by decide) (by omega) u5 acc (Tn x) _ _ _ (fun _ => True) (fun _ => False) rfl rfl ?aO ?aR (fun _ _ h => h) (fun _ h => h.elim) ?aF ?aB ?aS ?aL ?_; (case aR => exact HC4.out); (case aF => exact (fun _ _ => trivial)); (case aO => exact HO2.out); (case aB => exact HB2.out); (case aS => exact below_size HB2.out); (case aL => have := HL.out; rw [List.length_append] at this; omega); intro v5 w5 ho hb5 hg5 hat; have HO3 := Aside0.mk ho; have HB3 := Aside0.mk hb5; clear ho hb5 hg5 hat))
      go_roundg k'
      case measure => omega
      case rel => exact ⟨i + 1, by omega, by go_num, by omega, ⟨by rw [← flat_take Tn l0 i hlt HX.out, HA.out]; exact HO3.out⟩, HB3⟩
    · have : i = l0.length := by omega
      subst this
      go_wp2
      go_ret
      exact ⟨_, rfl, by have := HO.out; rw [List.take_length] at this; exact this, HB.out⟩
def utf_Runes.f (a0 : ByteArray) : Option (List Int) := if a0.size ≤ 17592186044415 then some (if validT a0 then runesI a0 else []) else none
set_option maxHeartbeats 4000000 in
set_option maxRecDepth 100000 in
theorem utf_Runes.calls (a0 : ByteArray) (r : List Int) (w : World) (h : utf_Runes.f a0 = some r) (hT : Tabs w) :
    Calls Tryz.prog 51 #[.string a0] w fun e w' => ∃ v0_ : Value, e = .returned (v0_) ∧ Kd.R (Kd.int .i64) 3 w' w.heap.size (fun _ => True) v0_ r ∧ Below w.heap.size w w' := by
  unfold utf_Runes.f at h
  split at h
  · rename_i hs
    have HS := Aside0.mk hs
    have HV := Aside0.mk (utf_Valid.calls a0 (validT a0) w (by unfold utf_Valid.f; rw [if_pos hs]) hT)
    obtain rfl := Option.some.inj h
    clear h hT hs
    cases hv : validT a0 with
    | false =>
      rw [hv] at HV
      clear hv
      go_enter Tryz.func51, Tryz.ntmps51
      go_wp2_with (go_at_call 49; (with_reducible refine HV.out.mono ?_); rintro e w1 ⟨rfl, hb⟩; have HB := Aside0.mk hb; clear hb HV)
      go_ret
      exact ⟨_, rfl, Kd.R_nil _ _ _ _ _, HB.out⟩
    | true =>
      rw [hv] at HV
      clear hv
      go_enter Tryz.func51, Tryz.ntmps51
      go_wp2_with (go_at_call 49; (with_reducible refine HV.out.mono ?_); rintro e w1 ⟨rfl, hb⟩; have HB := Aside0.mk hb; clear hb HV)
      have hK : w.heap.size ≤ w1.heap.size := HB.out.size
      have hi0 : (w1.iter a0 0).heap[w1.heap.size]? = some (.stringIter a0 0) := World.iter_heap _ _ _
      have hb0 : Below w.heap.size w (w1.iter a0 0) := by
        have : w1.iter a0 0 = w1.alloc (.stringIter a0 0) := rfl
        rw [this]; exact below_alloc HB.out _
      have HI0 := Aside0.mk hi0
      have HB0 := Aside0.mk hb0
      clear hi0 hb0
      go_loopg [3] (a0.size + 1) (fun gk v3 wr => ∃ (pos : Nat) (acc : List Int), Aside0 (wr.heap[w1.heap.size]? = some (.stringIter a0 pos)) ∧ Aside0 (acc ++ runesN a0.size (a0.data.toList.drop pos) = runesI a0) ∧ a0.size < gk + pos ∧ Aside0 (Kd.R (Kd.int .i64) 3 wr w.heap.size (fun _ => True) v3 acc) ∧ Aside0 (Below w.heap.size w wr))
      case atStart => exact ⟨0, [], HI0, ⟨rfl⟩, by omega, ⟨Kd.R_nil _ _ _ _ _⟩, HB0⟩
      case round =>
        clear HI0 HB0 HB
        obtain ⟨pos, acc, HI, HA, hk, HO, HB⟩ := hrel
        by_cases hp : pos < a0.size
        · obtain ⟨k', rfl⟩ : ∃ k', gk = k' + 1 := ⟨gk - 1, by omega⟩
          have hr := runes_at a0 hp
          have hw := decode_width a0 pos
          have hc := decode_rune a0 pos
          obtain ⟨c, wd, hd⟩ : ∃ c wd, Utf8.decode a0 pos = (c, wd) := ⟨_, _, rfl⟩
          have hnx : ∀ ty, (Instr.next (.pointer (some ⟨w1.heap.size, 0, none⟩)) true ty).run Tryz.prog wr = .ok (.tuple #[.bool true, .int .i64 pos, .int .i32 c]) (wr.iterAt w1.heap.size a0 (pos + wd)) := fun ty => by rw [run_next_any_at wr w1.heap.size a0 pos ty HI.out hp, hd]
          rw [hd] at hr hw hc
          have ha := HA.out
          rw [hr] at ha
          have hl : acc.length < 17592186044415 := by
            have h1 := congrArg List.length ha
            have h2 := runesI_len a0
            have h3 := HS.out
            rw [List.length_append, List.length_cons] at h1
            omega
          have HA2 := Aside0.mk ha
          have HL := Aside0.mk hl
          have HI2 := Aside0.mk (iterAt_heap wr w1.heap.size a0 pos (pos + wd) HI.out)
          have HO2 := Aside0.mk (R_iterAt HO.out HI.out (pos + wd))
          have HB2 := Aside0.mk (below_iterAt HB.out hK a0 (pos + wd))
          have hcz : (c : Int) ≤ 1114111 := by omega
          clear ha hl hr hd HA HI HO HB hc
          go_wp2_with (first | ((with_reducible refine gate_builtin (b := .append) (xs := #[.tmp 14, .tmp 17]) rfl ?_); at_builtin; refine Kd.R_append (Kd.int .i64) (w0 := w) w.heap.size rfl (.tmp 14) (.tmp 17) 50 3 (.int .i64 0) 8 rfl Tryz.underlying50 info3 rfl (by decide) (by omega) u3 acc c [.int .i64 c] (fun _ => True) (fun _ => False) rfl rfl ?aP (fun _ hk => hk.elim) ?aF ?aO ?aB ?aS ?aL ?_; (case aP => exact rfl); (case aF => exact (fun _ _ => trivial)); (case aO => exact HO2.out); (case aB => exact HB2.out); (case aS => exact HB2.out.size); (case aL => have := HL.out; omega); intro v1 w2 ho hb hg hat; have HI3 := Aside0.mk (iter_grown HI2.out (Kd.R_own HO2.out).choose_spec hg); have HO3 := Aside0.mk ho; have HB3 := Aside0.mk hb; clear ho hb hg hat HI2 HO2 HB2))
          go_roundg k'
          case measure => omega
          case rel => exact ⟨pos + wd, acc ++ [(c : Int)], HI3, ⟨by rw [List.append_assoc]; exact HA2.out⟩, by omega, HO3, HB3⟩
        · have hnx : ∀ ty, (Instr.next (.pointer (some ⟨w1.heap.size, 0, none⟩)) true ty).run Tryz.prog wr = .ok (.tuple #[.bool false]) wr := fun ty => run_next_end_at wr w1.heap.size a0 pos ty HI.out hp
          have ha := HA.out
          rw [runes_end a0 hp, List.append_nil] at ha
          have HA2 := Aside0.mk ha
          clear ha HA HI
          go_wp2
          go_ret
          exact ⟨_, rfl, by rw [← HA2.out]; exact HO.out, HB.out⟩
  · cases h
set_option maxHeartbeats 1000000 in
theorem slices_IndexFunc_int_int.hof (A0 : Option Addr) (c0 : Nat) (l0 : List Int) (F : Nat) (caps : Array Value) (g : Int → Bool) (w : World)
    (hr0 : Kd.C (Kd.int .i64) w A0 l0.length l0) (hl : l0.length ≤ 140737488351232) (hF : IsFn Tryz.prog F)
    (hg : ∀ (x : Int) (W : World), x ∈ l0 → Below w.heap.size w W → Calls Tryz.prog F (#[.int .i64 x] ++ caps) W fun e W' => e = .returned (.bool (g x)) ∧ Below W.heap.size W W') :
    Calls Tryz.prog 73 #[.slice A0 l0.length c0, .func (.func F) #[] caps] w fun e w' => e = .returned (.int .i64 (idxP g l0)) ∧ Below w.heap.size w w' := by
  have HB := Aside0.mk (Below.refl w.heap.size w)
  have HR := Aside0.mk hr0
  have HG := Aside0.mk hg
  clear hr0 hg
  go_enter Tryz.func73, Tryz.ntmps73
  go_wp2
  go_loopg [5, 8] (l0.length + 1) (fun gk v5 v8 wr => ∃ i : Nat, i ≤ l0.length ∧ v8 = .int .i64 i ∧ Aside0 (∀ j (hj : j < i) (hj' : j < l0.length), g (l0[j]'hj') = false) ∧ l0.length < gk + i ∧ Aside0 (Below w.heap.size w wr))
  case atStart => exact ⟨0, Nat.zero_le _, rfl, ⟨fun j hj => absurd hj (by omega)⟩, by omega, HB⟩
  case round =>
    clear HB
    obtain ⟨i, hi, rfl, HN, hk, HB⟩ := hrel
    by_cases hlt : i < l0.length
    · obtain ⟨k', rfl⟩ : ∃ k', gk = k' + 1 := ⟨gk - 1, by omega⟩
      have hltz : (i : Int) < (l0.length : Int) := by omega
      obtain ⟨ad, e1, hx⟩ := Kd.at_int (Kd.C_below HR.out HB.out) (i : Int) (by omega) (by omega)
      cases e1
      rw [Int.toNat_natCast, rd_get l0 i hlt] at hx
      obtain ⟨x, hxx⟩ : ∃ x, l0[i] = x := ⟨_, rfl⟩
      rw [hxx] at hx
      have HX := Aside0.mk hxx
      clear hxx
      cases hgx : g x with
      | true =>
        have HGX := Aside0.mk hgx
        clear hgx
        go_wp2_with (first | ((with_reducible refine gate_value rfl ?_); refine goesV (some 16) rfl rfl rfl rfl hF #[.int .i64 x] (by simp only [List.map_toArray, List.map_cons, List.map_nil]; rfl) ?_; (with_reducible refine (HG.out x _ (mem_of_getElem HX.out) HB.out).mono ?_); rintro e w4 ⟨rfl, hb⟩; refine ⟨_, rfl, ?_⟩; have HB2 := Aside0.mk (below_step HB.out hb); clear HB hb; rw [HGX.out]))
        go_ret
        exact ⟨by rw [idxP_hit hlt (fun j hj => HN.out j hj _) (by rw [HX.out]; exact HGX.out)]; rfl, HB2.out⟩
      | false =>
        have HGX := Aside0.mk hgx
        clear hgx
        go_wp2_with (first | ((with_reducible refine gate_value rfl ?_); refine goesV (some 16) rfl rfl rfl rfl hF #[.int .i64 x] (by simp only [List.map_toArray, List.map_cons, List.map_nil]; rfl) ?_; (with_reducible refine (HG.out x _ (mem_of_getElem HX.out) HB.out).mono ?_); rintro e w4 ⟨rfl, hb⟩; refine ⟨_, rfl, ?_⟩; have HB2 := Aside0.mk (below_step HB.out hb); clear HB hb; rw [HGX.out]))
        go_roundg k'
        case measure => omega
        case rel => exact ⟨i + 1, by omega, by go_num, ⟨fun j hj hj' => by
          rcases Nat.lt_or_ge j i with h | h
          · exact HN.out j h hj'
          · obtain rfl : j = i := by omega
            rw [HX.out]; exact HGX.out⟩, by omega, HB2⟩
    · have : i = l0.length := by omega
      subst this
      go_wp2
      go_ret
      exact ⟨by rw [idxP_none (fun j hj => HN.out j hj hj)]; rfl, HB.out⟩
theorem slices_ContainsFunc_int_int.hof (A0 : Option Addr) (c0 : Nat) (l0 : List Int) (F : Nat) (caps : Array Value) (g : Int → Bool) (w : World)
    (hr0 : Kd.C (Kd.int .i64) w A0 l0.length l0) (hl : l0.length ≤ 140737488351232) (hF : IsFn Tryz.prog F)
    (hg : ∀ (x : Int) (W : World), x ∈ l0 → Below w.heap.size w W → Calls Tryz.prog F (#[.int .i64 x] ++ caps) W fun e W' => e = .returned (.bool (g x)) ∧ Below W.heap.size W W') :
    Calls Tryz.prog 52 #[.slice A0 l0.length c0, .func (.func F) #[] caps] w fun e w' => e = .returned (.bool (l0.any g)) ∧ Below w.heap.size w w' := by
  have H := Aside0.mk (slices_IndexFunc_int_int.hof A0 c0 l0 F caps g w hr0 hl hF hg)
  clear hr0 hg hl
  go_enter Tryz.func52, Tryz.ntmps52
  go_wp2_with (go_at_call 73; (with_reducible refine H.out.mono ?_); rintro e w' ⟨rfl, hb⟩; have HB := Aside0.mk hb; clear hb H)
  go_ret
  exact ⟨by rw [← idxP_any]; rfl, HB.out⟩
theorem prep_of_1.hof (x : Int) (b : Nat) (F : Nat) (caps : Array Value) (g : Int → Bool) (w : World) (hF : IsFn Tryz.prog F)
    (hc : w.cell? ⟨b, 1, none⟩ = some (.func (.func F) #[] caps))
    (hg : Calls Tryz.prog F (#[.int .i64 x] ++ caps) w fun e W' => e = .returned (.bool (g x)) ∧ Below w.heap.size w W') :
    Calls Tryz.prog 53 #[.int .i64 x, .pointer (some ⟨b, 0, none⟩)] w fun e w' => e = .returned (.bool (!g x)) ∧ Below w.heap.size w w' := by
  have HG := Aside0.mk hg
  have hu := Tryz.underlying52
  clear hg
  go_enter Tryz.func53, Tryz.ntmps53
  go_wp2_with (first | ((with_reducible refine gate_value rfl ?_); refine goesV (some 7) rfl rfl rfl rfl hF #[.int .i64 x] (by simp only [List.map_toArray, List.map_cons, List.map_nil]; rfl) ?_; (with_reducible refine HG.out.mono ?_); rintro e w4 ⟨rfl, hb⟩; refine ⟨_, rfl, ?_⟩; have HB2 := Aside0.mk hb; clear hb HG))
  go_ret
  exact ⟨rfl, HB2.out⟩
def ranges_has.f (a0_0 : Int) (a0_1 : Int) (a1 : Int) : Option (Bool) := if a1 ≥ a0_0 then (some (decide (a1 ≤ a0_1))) else (some false)
set_option maxHeartbeats 8000000 in
set_option maxRecDepth 100000 in
theorem ranges_has.calls (a0_0 : Int) (a0_1 : Int) (a1 : Int) (r : Bool) (w : World) (h : ranges_has.f a0_0 a0_1 a1 = some r) :
    Calls Tryz.prog 65 #[.agg #[.int .i64 a0_0, .int .i64 a0_1], .int .i64 a1] w fun e w' => e = .returned (.bool r) ∧ Below w.heap.size w w' := by
  have hu69 := Tryz.underlying69
  have HB := Aside0.mk (Below.refl w.heap.size w)
  have H : (if a1 ≥ a0_0 then (some (decide (a1 ≤ a0_1))) else (some false)) = some r := h
  clear h
  by_cases c3 : a1 ≥ a0_0
  · rw [if_pos c3] at H
    have c3b0 : decide (a0_0 ≤ a1) = true := decide_eq_true c3
    clear c3
    obtain rfl := Option.some.inj H
    go_enter Tryz.func65, Tryz.ntmps65
    go_wp2_with (first | ((with_reducible refine gate_dst (N := 2) rfl ?_); refine box_event ?hg (N := 2) ?hd (cs := #[.int .i64 a0_0, .int .i64 a0_1]) (t := 69) ?hr ?_; (case hd => rfl); (case hg => rfl); (case hr => first | (go_simp; done) | (go_simp; rfl)); intro gb112 hg w4 hbox hb; have n0_ := Aside0.mk (below_step (by repeat (first | (with_reducible first | exact HB.out | apply below_alloc | apply pw_below_drewN | apply below_drew1) | exact HB.out)) hb); have n1_ := Aside0.mk (hbox); have n2_ := Aside0.mk ((by rw [hg]; exact (below_size (by repeat (first | (with_reducible first | exact HB.out | apply below_alloc | apply pw_below_drewN | apply below_drew1) | exact HB.out))) : w.heap.size ≤ gb112)); have n3_ := Aside0.mk ((by rw [hg]; exact (below_size (by repeat (first | (with_reducible first | exact HB.out | apply below_alloc | apply pw_below_drewN | apply below_drew1) | exact HB.out))) : w.heap.size ≤ gb112)); clear HB; have HB := n0_; have BK112 := n1_; have GW112 := n2_; have GE112 := n3_; clear n0_ n1_ n2_ n3_; clear hb hbox hg; have hcz5_0 : w4.cell? ⟨gb112, 0, none⟩ = some (.int .i64 a0_0) := (blk_cell BK112.out 0).trans rfl; have hcz5_1 : w4.cell? ⟨gb112, 1, none⟩ = some (.int .i64 a0_1) := (blk_cell BK112.out 1).trans rfl; have hfz5_0 := blk_frozen BK112.out 0; have hfz5_1 := blk_frozen BK112.out 1))
    go_ret
    exact ⟨by first | rfl | (simp [errW_none, errW_some] <;> rfl) | (simp [*, errW_none, errW_some] <;> rfl), by repeat (first | (with_reducible first | exact HB.out | apply below_alloc | apply pw_below_drewN | apply below_drew1 | refine below_set ?_ GE112.out) | exact HB.out)⟩
  · rw [if_neg c3] at H
    have c3b0 : decide (a0_0 ≤ a1) = false := decide_eq_false c3
    clear c3
    obtain rfl := Option.some.inj H
    go_enter Tryz.func65, Tryz.ntmps65
    go_wp2_with (first | ((with_reducible refine gate_dst (N := 2) rfl ?_); refine box_event ?hg (N := 2) ?hd (cs := #[.int .i64 a0_0, .int .i64 a0_1]) (t := 69) ?hr ?_; (case hd => rfl); (case hg => rfl); (case hr => first | (go_simp; done) | (go_simp; rfl)); intro gb112 hg w6 hbox hb; have n0_ := Aside0.mk (below_step (by repeat (first | (with_reducible first | exact HB.out | apply below_alloc | apply pw_below_drewN | apply below_drew1) | exact HB.out)) hb); have n1_ := Aside0.mk (hbox); have n2_ := Aside0.mk ((by rw [hg]; exact (below_size (by repeat (first | (with_reducible first | exact HB.out | apply below_alloc | apply pw_below_drewN | apply below_drew1) | exact HB.out))) : w.heap.size ≤ gb112)); have n3_ := Aside0.mk ((by rw [hg]; exact (below_size (by repeat (first | (with_reducible first | exact HB.out | apply below_alloc | apply pw_below_drewN | apply below_drew1) | exact HB.out))) : w.heap.size ≤ gb112)); clear HB; have HB := n0_; have BK112 := n1_; have GW112 := n2_; have GE112 := n3_; clear n0_ n1_ n2_ n3_; clear hb hbox hg; have hcz7_0 : w6.cell? ⟨gb112, 0, none⟩ = some (.int .i64 a0_0) := (blk_cell BK112.out 0).trans rfl; have hcz7_1 : w6.cell? ⟨gb112, 1, none⟩ = some (.int .i64 a0_1) := (blk_cell BK112.out 1).trans rfl; have hfz7_0 := blk_frozen BK112.out 0; have hfz7_1 := blk_frozen BK112.out 1))
    go_ret
    exact ⟨by first | rfl | (simp [errW_none, errW_some] <;> rfl) | (simp [*, errW_none, errW_some] <;> rfl), by repeat (first | (with_reducible first | exact HB.out | apply below_alloc | apply pw_below_drewN | apply below_drew1 | refine below_set ?_ GE112.out) | exact HB.out)⟩
set_option maxHeartbeats 4000000 in
set_option maxRecDepth 100000 in
theorem api_Range_int.hof (A0 : Option Addr) (c0 : Nat) (l0 : List (S69)) (a1 : Int) (F : Nat) (caps : Array Value) (g : S69 → Bool) (w : World)
    (hr0 : Kd.C k69 w A0 l0.length l0) (hl : l0.length ≤ 140737488351232) (hF : IsFn Tryz.prog F)
    (hg : ∀ (x : S69) (W : World), Below w.heap.size w W → Calls Tryz.prog F (#[.agg #[.int .i64 x.f0, .int .i64 x.f1], .int .i64 a1] ++ caps) W fun e W' => e = .returned (.bool (g x)) ∧ Below W.heap.size W W') :
    Calls Tryz.prog 64 #[.slice A0 l0.length c0, .int .i64 a1, .func (.func F) #[] caps] w fun e w' => e = .returned (.bool (l0.any g)) ∧ Below w.heap.size w w' := by
  have HB := Aside0.mk (Below.refl w.heap.size w)
  have HR := Aside0.mk hr0
  have HG := Aside0.mk hg
  have hu := Tryz.underlying69
  clear hr0 hg
  go_enter Tryz.func64, Tryz.ntmps64
  go_wp2
  go_loopg [11] (l0.length + 1) (fun gk v11 wr => ∃ i : Nat, i ≤ l0.length ∧ v11 = .int .i64 i ∧ Aside0 (∀ j (hj : j < i) (hj' : j < l0.length), g (l0[j]'hj') = false) ∧ l0.length < gk + i ∧ Aside0 (Below w.heap.size w wr))
  case atStart => exact ⟨0, Nat.zero_le _, rfl, ⟨fun j hj => absurd hj (by omega)⟩, by omega, HB⟩
  case round =>
    clear HB
    obtain ⟨i, hi, rfl, HN, hk, HB⟩ := hrel
    by_cases hlt : i < l0.length
    · obtain ⟨k', rfl⟩ : ∃ k', gk = k' + 1 := ⟨gk - 1, by omega⟩
      have hltz : (i : Int) < (l0.length : Int) := by omega
      obtain ⟨ad, e1, hx, hy⟩ := at_T69 (Kd.C_below HR.out HB.out) (i : Int) (by omega) (by omega)
      cases e1
      rw [Int.toNat_natCast] at hx hy
      obtain ⟨x, hxx⟩ : ∃ x, rd_T69 l0 (i : Int) = x := ⟨_, rfl⟩
      rw [hxx] at hx hy
      have HX := Aside0.mk (show l0[i] = x by rw [← hxx]; simp [rd_T69, hlt])
      clear hxx
      cases hgx : g x with
      | true =>
        have HGX := Aside0.mk hgx
        clear hgx
        go_wp2_with (first | ((with_reducible refine gate_value rfl ?_); refine goesV (some 18) rfl rfl rfl rfl hF #[.agg #[.int .i64 x.f0, .int .i64 x.f1], .int .i64 a1] (by simp only [List.map_toArray, List.map_cons, List.map_nil]; rfl) ?_; (with_reducible refine (HG.out x _ (by repeat (first | (with_reducible first | exact HB.out | apply below_alloc | apply pw_below_drewN | apply below_drew1) | exact HB.out))).mono ?_); rintro e w4 ⟨rfl, hb⟩; refine ⟨_, rfl, ?_⟩; have HB2 := Aside0.mk (below2 (by repeat (first | (with_reducible first | exact HB.out | apply below_alloc | apply pw_below_drewN | apply below_drew1) | exact HB.out)) hb); clear HB hb; rw [HGX.out]))
        go_ret
        exact ⟨by rw [show l0.any g = true from by rw [List.any_eq_true]; exact ⟨x, mem_of_getElem HX.out, HGX.out⟩]; rfl, HB2.out⟩
      | false =>
        have HGX := Aside0.mk hgx
        clear hgx
        go_wp2_with (first | ((with_reducible refine gate_value rfl ?_); refine goesV (some 18) rfl rfl rfl rfl hF #[.agg #[.int .i64 x.f0, .int .i64 x.f1], .int .i64 a1] (by simp only [List.map_toArray, List.map_cons, List.map_nil]; rfl) ?_; (with_reducible refine (HG.out x _ (by repeat (first | (with_reducible first | exact HB.out | apply below_alloc | apply pw_below_drewN | apply below_drew1) | exact HB.out))).mono ?_); rintro e w4 ⟨rfl, hb⟩; refine ⟨_, rfl, ?_⟩; have HB2 := Aside0.mk (below2 (by repeat (first | (with_reducible first | exact HB.out | apply below_alloc | apply pw_below_drewN | apply below_drew1) | exact HB.out)) hb); clear HB hb; rw [HGX.out]))
        go_roundg k'
        case measure => omega
        case rel => exact ⟨i + 1, by omega, by go_num, ⟨fun j hj hj' => by
          rcases Nat.lt_or_ge j i with h | h
          · exact HN.out j h hj'
          · obtain rfl : j = i := by omega
            rw [HX.out]; exact HGX.out⟩, by omega, HB2⟩
    · have : i = l0.length := by omega
      subst this
      go_wp2
      go_ret
      exact ⟨by rw [show l0.any g = false from by rw [List.any_eq_false]; intro x hx; obtain ⟨j, hj, rfl⟩ := List.getElem_of_mem hx; rw [HN.out j hj hj]; simp]; rfl, HB.out⟩
def inR (c : Int) (x : S69) : Bool := decide (x.f0 ≤ c) && decide (c ≤ x.f1)
theorem has_eq (x : S69) (c : Int) : ranges_has.f x.f0 x.f1 c = some (inR c x) := by
  unfold ranges_has.f inR
  by_cases h : c ≥ x.f0
  · rw [if_pos h, decide_eq_true (show x.f0 ≤ c from h)]; rfl
  · rw [if_neg h, decide_eq_false (show ¬ x.f0 ≤ c from h)]; rfl
def ranges_In.f (l0 : List (S69)) (a1 : Int) : Option Bool := if l0.length ≤ 1000000 then some (l0.any (inR a1)) else none
set_option maxHeartbeats 4000000 in
set_option maxRecDepth 100000 in
theorem ranges_In.calls (A0 : Option Addr) (c0 : Nat) (l0 : List (S69)) (a1 : Int) (r : Bool) (w : World) (hr0 : Kd.C k69 w A0 l0.length l0) (hc0 : l0.length ≤ c0) (h : ranges_In.f l0 a1 = some r) :
    Calls Tryz.prog 40 #[.slice A0 l0.length c0, .int .i64 a1] w fun e w' => e = .returned (.bool r) ∧ Below w.heap.size w w' := by
  unfold ranges_In.f at h
  split at h
  · rename_i hl
    obtain rfl := Option.some.inj h
    have hF : IsFn Tryz.prog 65 := ⟨⟨_, Tryz.func65, by kernel_rfl, rfl⟩⟩
    have H := Aside0.mk (api_Range_int.hof A0 c0 l0 a1 65 #[] (inR a1) w hr0 (by omega) hF (fun x W _ => ranges_has.calls x.f0 x.f1 a1 _ W (has_eq x a1)))
    clear hr0 hc0 h hl hF
    go_enter Tryz.func40, Tryz.ntmps40
    go_wp2_with (go_at_call 64; (with_reducible refine H.out.mono ?_); rintro e w' ⟨rfl, hb⟩; have HB := Aside0.mk hb; clear hb H)
    go_ret
    exact ⟨rfl, HB.out⟩
  · cases h
def ranges_made_1.f (a0 : Int) (a1 : Int) : Option (Int × Int) := some (a0, a1)
set_option maxHeartbeats 8000000 in
set_option maxRecDepth 100000 in
theorem ranges_made_1.calls (a0 : Int) (a1 : Int) (r1 : Int) (r2 : Int) (w : World) (h : ranges_made_1.f a0 a1 = some (r1, r2)) :
    Calls Tryz.prog 85 #[.int .i64 a0, .int .i64 a1] w fun e w' => e = .returned (.agg #[.int .i64 r1, .int .i64 r2]) ∧ Below w.heap.size w w' := by
  have hu69 := Tryz.underlying69
  have HB := Aside0.mk (Below.refl w.heap.size w)
  have H : (some (a0, a1)) = some (r1, r2) := h
  clear h
  simp only [Option.some.injEq, Prod.mk.injEq] at H
  obtain ⟨rfl, rfl⟩ := H
  go_enter Tryz.func85, Tryz.ntmps85
  go_wp2_with (first | ((with_reducible refine gate_dst (N := 4) rfl ?_); refine box_event ?hg (N := 4) ?hd (cs := #[.int .i64 0, .int .i64 0]) (t := 69) ?hr ?_; (case hd => rfl); (case hg => rfl); (case hr => first | (go_simp; done) | (go_simp; rfl)); intro gb113 hg w3 hbox hb; have n0_ := Aside0.mk (below_step (by repeat (first | (with_reducible first | exact HB.out | apply below_alloc | apply pw_below_drewN | apply below_drew1) | exact HB.out)) hb); have n1_ := Aside0.mk (hbox); have n2_ := Aside0.mk ((by rw [hg]; exact (below_size (by repeat (first | (with_reducible first | exact HB.out | apply below_alloc | apply pw_below_drewN | apply below_drew1) | exact HB.out))) : w.heap.size ≤ gb113)); have n3_ := Aside0.mk ((by rw [hg]; exact (below_size (by repeat (first | (with_reducible first | exact HB.out | apply below_alloc | apply pw_below_drewN | apply below_drew1) | exact HB.out))) : w.heap.size ≤ gb113)); clear HB; have HB := n0_; have BK113 := n1_; have GW113 := n2_; have GE113 := n3_; clear n0_ n1_ n2_ n3_; clear hb hbox hg; have hcz4_0 : w3.cell? ⟨gb113, 0, none⟩ = some (.int .i64 0) := (blk_cell BK113.out 0).trans rfl; have hcz4_1 : w3.cell? ⟨gb113, 1, none⟩ = some (.int .i64 0) := (blk_cell BK113.out 1).trans rfl; have hfz4_0 := blk_frozen BK113.out 0; have hfz4_1 := blk_frozen BK113.out 1))
  refine bodyPost_ret (results_cell_row rfl _ _ gb113 69 #[.int .i64 a0, .int .i64 a1] (0, 0) _ rfl (by (with_reducible repeat (first | refine blk_drewN ?_ _ | refine blk_drew ?_ | refine blk_alloc ?_ _)); refine blk_put (cs := #[.int .i64 a0, .int .i64 0]) ?_ 1 _ rfl; (with_reducible repeat (first | refine blk_drewN ?_ _ | refine blk_drew ?_ | refine blk_alloc ?_ _)); refine blk_put (cs := #[.int .i64 0, .int .i64 0]) ?_ 0 _ rfl; (with_reducible repeat (first | refine blk_drewN ?_ _ | refine blk_drew ?_ | refine blk_alloc ?_ _)); exact BK113.out) Tryz.underlying69 rfl (by kernel_rfl)) rfl ?_
  exact ⟨by first | rfl | (simp [errW_none, errW_some] <;> rfl) | (simp [*, errW_none, errW_some] <;> rfl), by repeat (first | (with_reducible first | exact HB.out | apply below_alloc | apply pw_below_drewN | apply below_drew1 | refine below_set ?_ GE113.out) | exact HB.out)⟩
def pairsL : List Int → List (S69)
  | a :: b :: l => ⟨a, b⟩ :: pairsL l
  | _ => []
theorem pairsL_len : ∀ l, (pairsL l).length ≤ l.length
  | [] => by simp [pairsL]
  | [_] => by simp [pairsL]
  | a :: b :: l => by have := pairsL_len l; simp [pairsL]; omega
theorem two_of (l : List Int) (h : 2 ≤ l.length) : ∃ x y l1, l = x :: y :: l1 := by
  match l, h with
  | x :: y :: l1, _ => exact ⟨x, y, l1, rfl⟩
theorem pairsL_short (l : List Int) (h : ¬ 1 < l.length) : pairsL l = [] := by
  match l, h with
  | [], _ => rfl
  | [_], _ => rfl
  | _ :: _ :: _, h => simp at h
set_option maxHeartbeats 4000000 in
set_option maxRecDepth 100000 in
theorem api_Range.hof (A0 : Option Addr) (c0 : Nat) (l0 : List Int) (w : World)
    (hr0 : Kd.C (Kd.int .i64) w A0 l0.length l0) (hc0 : l0.length ≤ c0) (hl : l0.length ≤ 1000000) :
    Calls Tryz.prog 84 #[.agg #[.slice A0 l0.length c0], .func (.func 85) #[] #[]] w fun e w' => ∃ v0_ : Value, e = .returned (v0_) ∧ Kd.R k69 69 w' w.heap.size (fun _ => True) v0_ (pairsL l0) ∧ Below w.heap.size w w' := by
  have HR := Aside0.mk hr0
  have HL := Aside0.mk hl
  have HC := Aside0.mk hc0
  clear hr0 hl hc0
  have hu := Tryz.underlying81
  have hF : IsFn Tryz.prog 85 := ⟨⟨_, Tryz.func85, by kernel_rfl, rfl⟩⟩
  go_enter Tryz.func84, Tryz.ntmps84
  go_wp2
  go_loopg [5, 6] (l0.length + 1) (fun gk v5 v6 wr => ∃ (A : Option Addr) (c : Nat) (rest : List Int) (acc : List (S69)), v6 = .slice A rest.length c ∧ Aside0 (rest.length ≤ c) ∧ Aside0 (Kd.C (Kd.int .i64) w A rest.length rest) ∧ Aside0 (acc ++ pairsL rest = pairsL l0) ∧ rest.length < gk ∧ Aside0 (Kd.R k69 69 wr w.heap.size (fun _ => True) v5 acc) ∧ Aside0 (Below w.heap.size w wr))
  case atStart => exact ⟨A0, c0, l0, [], rfl, HC, HR, ⟨rfl⟩, by omega, ⟨Kd.R_nil _ _ _ _ _⟩, ⟨below_alloc (Below.refl _ _) _⟩⟩
  case round =>
    clear HR HC
    obtain ⟨A, c, rest, acc, rfl, HC, HR, HA, hk, HO, HB⟩ := hrel
    by_cases hlt : (1 : Int) < (rest.length : Int)
    · obtain ⟨k', rfl⟩ : ∃ k', gk = k' + 1 := ⟨gk - 1, by omega⟩
      obtain ⟨ad, e1, hx⟩ := Kd.at_int (Kd.C_below HR.out HB.out) 0 (by omega) (by omega)
      cases e1
      obtain ⟨ad', e2, hy⟩ := Kd.at_int (Kd.C_below HR.out HB.out) 1 (by omega) (by omega)
      cases e2
      rw [Int.toNat_zero, Addr.add_zero'] at hx
      rw [show (1 : Int).toNat = 1 from rfl] at hy
      obtain ⟨x, y, l1, hxy⟩ := two_of rest (by omega)
      have ex : rd rest 0 = x := by rw [hxy]; rfl
      have ey : rd rest 1 = y := by rw [hxy]; rfl
      rw [ex] at hx
      rw [ey] at hy
      have HXY := Aside0.mk hxy
      have hy2 : wr.cell? ⟨ad.block, ad.off + 1, none⟩ = some (.int .i64 y) := by rw [← hy]; simp [Addr.add]
      have h0n : 0 < rest.length := by omega
      have h0e : ¬ rest = [] := by rw [hxy]; simp
      clear hy
      have h0 : (0 : Int) < (rest.length : Int) := by omega
      obtain ⟨i0, hi0, hz0, hz1, hz2⟩ := info_parts info3
      obtain ⟨A2, l2, c2, hl2, hcut, hC2, hc2⟩ := cut_drop (P := Tryz.prog) (Kd.int .i64) 50 3 .i64 Tryz.underlying50 hi0 hz1 (some ad) c rest 2 2 rfl (by omega) HC.out
      have HC2 := Aside0.mk (hC2 w HR.out)
      have HC3 := Aside0.mk hc2
      have HL2 := Aside0.mk hl2
      clear hC2 hc2 hl2 hi0 hz0 hz1 hz2
      have HLA := Aside0.mk (show acc.length ≤ 1000000 by
        have h1 := congrArg List.length HA.out
        have h2 := pairsL_len l0
        have h3 := HL.out
        rw [List.length_append] at h1
        omega)
      clear ex ey hxy
      go_wp2_with fail
      refine start_ (n := 12) (S := fun w' => w'.cell? ad = some (.int .i64 x) ∧ w'.cell? ⟨ad.block, ad.off + 1, none⟩ = some (.int .i64 y)) (ds := [8, 9, 10]) #[false, false, false, false, false, false, false, false, false, false, false, false] (by kernel_rfl) rfl rfl ⟨hx, hy2⟩ (fun hHeld => ?_)
      refine pure_ (i := 0) (N := some 14) (v := ?_) (a' := ?_) #[true, false, false, false, false, false, false, false, false, false, false, false] rfl rfl (by kernel_rfl) (fun _ _ _ h => h) (Or.inl ⟨by rfl, ?_⟩) ?_ ?_
      rotate_left
      · intro w'
        go_simp
        with_reducible rfl
      rotate_left
      · simp only [Act.put, List.setIfInBounds_toArray, List.set_cons_zero, List.set_cons_succ, i64_w, i32_w]
        rfl
      refine pure_ (i := 1) (N := some 15) (v := ?_) (a' := ?_) #[true, true, false, false, false, false, false, false, false, false, false, false] rfl rfl (by kernel_rfl) (fun _ _ _ h => h) (Or.inl ⟨by rfl, ?_⟩) ?_ ?_
      rotate_left
      · intro w'
        go_simp
        with_reducible rfl
      rotate_left
      · simp only [Act.put, List.setIfInBounds_toArray, List.set_cons_zero, List.set_cons_succ, i64_w, i32_w]
        rfl
      refine pure_ (i := 2) (N := some 16) (v := ?_) (a' := ?_) #[true, true, true, false, false, false, false, false, false, false, false, false] rfl rfl (by kernel_rfl) (fun _ _ _ h => h) (Or.inl ⟨by rfl, ?_⟩) ?_ ?_
      rotate_left
      · intro w'
        go_simp
        with_reducible rfl
      rotate_left
      · simp only [Act.put, List.setIfInBounds_toArray, List.set_cons_zero, List.set_cons_succ, i64_w, i32_w]
        rfl
      refine pure_ (i := 3) (N := some 17) (v := ?_) (a' := ?_) #[true, true, true, true, false, false, false, false, false, false, false, false] rfl rfl (by kernel_rfl) (fun _ _ _ h => h) (Or.inl ⟨by rfl, ?_⟩) ?_ ?_
      rotate_left
      · intro w'
        go_simp
        with_reducible rfl
      rotate_left
      · simp only [Act.put, List.setIfInBounds_toArray, List.set_cons_zero, List.set_cons_succ, i64_w, i32_w]
        rfl
      refine pure_ (i := 5) (N := some 19) (v := ?_) (a' := ?_) #[true, true, true, true, false, true, false, false, false, false, false, false] rfl rfl (by kernel_rfl) (fun _ _ _ h => h) (Or.inl ⟨by rfl, ?_⟩) ?_ ?_
      rotate_left
      · intro w'
        go_simp
        with_reducible rfl
      rotate_left
      · simp only [Act.put, List.setIfInBounds_toArray, List.set_cons_zero, List.set_cons_succ, i64_w, i32_w]
        rfl
      refine pure_ (i := 6) (N := some 20) (v := ?_) (a' := ?_) #[true, true, true, true, false, true, true, false, false, false, false, false] rfl rfl (by kernel_rfl) (fun _ _ _ h => h) (Or.inl ⟨by rfl, ?_⟩) ?_ ?_
      rotate_left
      · intro w'
        go_simp
        with_reducible rfl
      rotate_left
      · simp only [Act.put, List.setIfInBounds_toArray, List.set_cons_zero, List.set_cons_succ, i64_w, i32_w]
        rfl
      refine take_ (i := 4) (N := some 18) (v := ?_) (a' := ?_) #[true, true, true, true, true, true, true, false, false, false, false, false] rfl rfl (by kernel_rfl) (fun _ _ _ h => h) (Or.inl ⟨by rfl, ?_⟩) hHeld ?_ ?_
      rotate_left
      · rintro w' ⟨s0, s1⟩
        go_simp
        with_reducible rfl
      rotate_left
      · simp only [Act.put, List.setIfInBounds_toArray, List.set_cons_zero, List.set_cons_succ, i64_w, i32_w]
        rfl
      refine take_ (i := 7) (N := some 21) (v := ?_) (a' := ?_) #[true, true, true, true, true, true, true, true, false, false, false, false] rfl rfl (by kernel_rfl) (fun _ _ _ h => h) (Or.inl ⟨by rfl, ?_⟩) hHeld ?_ ?_
      rotate_left
      · rintro w' ⟨s0, s1⟩
        go_simp
        with_reducible rfl
      rotate_left
      · simp only [Act.put, List.setIfInBounds_toArray, List.set_cons_zero, List.set_cons_succ, i64_w, i32_w]
        rfl
      refine last_ (i := 8) (N := some 22) #[true, true, true, true, true, true, true, true, true, false, false, false] rfl rfl (by kernel_rfl) (by decide) (fun K hK => ?_)
      refine goesR rfl rfl hF #[.int .i64 x, .int .i64 y] (by rfl) rfl (by simp only [List.map_toArray, List.map_cons, List.map_nil]; rfl) ?_
      refine calls_of_args (args' := #[.int .i64 x, .int .i64 y]) rfl ?_
      with_reducible refine (ranges_made_1.calls x y x y _ rfl).mono ?_
      rintro e w4 ⟨rfl, hb⟩
      refine ⟨_, rfl, ?_⟩
      have HB2 := Aside0.mk (below2 (by repeat (first | (with_reducible first | exact HB.out | apply below_alloc | apply pw_below_drewN | apply below_drew1) | exact HB.out)) hb)
      have HO2 := Aside0.mk (Kd.R_below (by (with_reducible repeat (first | apply Kd.R_alloc | apply Kd.R_drewN | apply Kd.R_drew)); exact HO.out) hb)
      refine hK.out _ _ ?_
      clear hK K
      refine norm_ (a' := ?_) ?_ ?_
      rotate_left
      · show Act.put _ (some 22) _ = _
        simp only [Act.put, List.setIfInBounds_toArray, List.set_cons_zero, List.set_cons_succ, i64_w, i32_w]
        rfl
      refine last_ (i := 9) (N := some 23) #[true, true, true, true, true, true, true, true, true, true, false, false] rfl rfl (by kernel_rfl) (by decide) (fun K hK => ?_)
      refine value_ (w1 := ?_) (v := ?_) (by rfl) rfl ?_ ?_
      rotate_left 2
      · go_simp
        constructor
        · rfl
        · rfl
      refine hK.out _ _ ?_
      clear hK K
      refine norm_ (a' := ?_) ?_ ?_
      rotate_left
      · show Act.put _ (some 23) _ = _
        simp only [Act.put, List.setIfInBounds_toArray, List.set_cons_zero, List.set_cons_succ, i64_w, i32_w]
        rfl
      refine last_ (i := 10) (N := some 24) #[true, true, true, true, true, true, true, true, true, true, true, false] rfl rfl (by kernel_rfl) (by decide) (fun K hK => ?_)
      refine Kd.R_append_step k69 (w0 := w) w.heap.size rfl (.tmp 14) (.tmp 23) 55 69 (.agg #[(.int .i64 0), (.int .i64 0)]) 16 rfl Tryz.underlying55 info69 rfl (by decide) (by omega) u5 acc (⟨x, y⟩ : S69) [.int .i64 x, .int .i64 y] (fun _ => True) (fun _ => False) rfl rfl (k69_mkM _ _ _ _) (fun _ hk => hk.elim) (fun _ _ => trivial) HO2.out HB2.out (below_size HB2.out) (by have := HLA.out; omega) ?_
      intro v1 w5 ho hb5 hg hat
      have HO3 := Aside0.mk ho
      have HB3 := Aside0.mk hb5
      refine hK.out _ _ ?_
      clear hK K
      refine norm_ (a' := ?_) ?_ ?_
      rotate_left
      · show Act.put _ (some 24) _ = _
        simp only [Act.put, List.setIfInBounds_toArray, List.set_cons_zero, List.set_cons_succ, i64_w, i32_w]
        rfl
      refine pure_ (i := 11) (N := some 5) (v := ?_) (a' := ?_) #[true, true, true, true, true, true, true, true, true, true, true, true] rfl rfl (by kernel_rfl) (fun _ _ _ h => h) (Or.inl ⟨by rfl, ?_⟩) ?_ ?_
      rotate_left
      · intro w'
        go_simp
        with_reducible rfl
      rotate_left
      · simp only [Act.put, List.setIfInBounds_toArray, List.set_cons_zero, List.set_cons_succ, i64_w, i32_w]
        rfl
      refine done_ (by kernel_rfl) ?_
      clear hx hy2 hHeld h0n h0e h0 HB HO HB2 HO2
      go_wp2
      go_roundg k'
      case measure => omega
      case rel => exact ⟨A2, c2, l2, acc ++ [⟨x, y⟩], rfl, HC3, HC2, ⟨by rw [List.append_assoc, ← HA.out, HL2.out, HXY.out]; rfl⟩, by rw [HL2.out, List.length_drop]; omega, HO3, HB3⟩
    · go_wp2
      go_ret
      refine ⟨_, rfl, ?_, HB.out⟩
      have h1 := HA.out
      rw [pairsL_short rest (by omega), List.append_nil] at h1
      rw [← h1]; exact HO.out
end Go.Proofs.YtmhfjeekhkoikaaGreatDoor.Q
