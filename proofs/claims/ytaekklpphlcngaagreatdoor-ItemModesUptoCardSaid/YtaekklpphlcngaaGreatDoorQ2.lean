-- Written by hookprint.py (wip/) of this session: the kit's print with hand-proved functions beside it. Not trusted: Lean checks it.
import Derived.Test.YtaekklpphlcngaaGreatDoorQ0
import Derived.Test.YtaekklpphlcngaaGreatDoorQ1
namespace Go.Proofs.YtaekklpphlcngaaGreatDoor.Q
open List (setIfInBounds_toArray set_cons_zero set_cons_succ)
open Go.RowKit Go.Lib Go.Proofs.YtaekklpphlcngaaGreatDoorX Go.Proofs.YtaekklpphlcngaaGreatDoorW.PrintWords Go.Proofs.YtaekklpphlcngaaGreatDoorW.PrintLast Go.Proofs.YtaekklpphlcngaaGreatDoorW.PrintMore
set_option linter.unusedVariables false
set_option linter.unusedSimpArgs false
def utf_span_rune_has.f (a0_0 : Int) (a0_1 : Int) (a1 : Int) : Option (Bool) := if a1 ≥ a0_0 then (some (decide (a1 ≤ a0_1))) else (some false)
theorem lf2 {P : Prop} (h : P := by
 go_enter Tryz.func53, Tryz.ntmps53
 go_wp2_with (first | ((with_reducible refine gd 2 ?_); refine bz #[.int .i32 a0_0, .int .i32 a0_1] 82 ?_; intro gb135 hg v0_ hbox hb; have n_ := as4 (below_step zz0 hb) hbox (gs w hg zz0) (gs w hg zz0); clear HB; obtain ⟨HB, BK135, GW135, GE135⟩ := n_; clear hb hbox hg; obtain ⟨hcz135_0, hcz135_1⟩ := cz2 BK135.out; obtain ⟨hfz135_0, hfz135_1⟩ := fz2 BK135.out))
 go_ret; exact ⟨zz4, by repeat (first | (with_reducible first | exact HB.out | apply below_alloc | apply pw_below_drewN | apply below_drew1 | refine below_set ?_ GE135.out) | exact HB.out)⟩) : P := h
set_option maxHeartbeats 8000000 in
set_option maxRecDepth 100000 in
theorem utf_span_rune_has.calls (a0_0 : Int) (a0_1 : Int) (a1 : Int) (r : Bool) (w : World) (h : utf_span_rune_has.f a0_0 a0_1 a1 = some r) :
  Calls Tryz.prog 53 #[.agg #[.int .i32 a0_0, .int .i32 a0_1], .int .i32 a1] w fun e w' => e = .returned (.bool r) ∧ Below w.heap.size w w' := by
 have hu82 := Tryz.underlying82
 have HB := Aside0.mk (Below.refl w.heap.size w)
 have H : (if a1 ≥ a0_0 then (some (decide (a1 ≤ a0_1))) else (some false)) = some r := h
 clear h
 by_cases c3 : a1 ≥ a0_0
 ·rw [if_pos c3] at H
  have c3b0 := decide_eq_true c3
  clear c3
  obtain rfl := Option.some.inj H
  exact lf2
 rw [if_neg c3] at H
 have c3b0 := decide_eq_false c3
 clear c3
 obtain rfl := Option.some.inj H
 exact lf2
def utf_shown.f (a0 : Int) : Option (Bool) := (utf_span_rune_has.f 32 65533 a0).bind fun t136 => (if t136 = true then (some true) else ((utf_span_rune_has.f 65536 1114111 a0).bind fun t137 => (some t137)))
theorem lf3 {P : Prop} (h : P := by
 go_enter Tryz.func36, Tryz.ntmps36
 go_wp2_with (first | ((with_reducible refine gc 53 ?_); refine gL (some 5) Tryz.func53 #[.agg #[.int .i32 32, .int .i32 65533], .int .i32 a0] ?_; (with_reducible refine (utf_span_rune_has.calls 32 65533 a0 true _ A2.out).mono ?_); rintro e v0_ ⟨rfl, hb⟩; refine ⟨_, rfl, ?_⟩; replace HB := Aside0.mk (below_step zz0 hb); (try clear hb)) | ((with_reducible refine gc 53 ?_); refine gL (some 5) Tryz.func53 #[.agg #[.int .i32 32, .int .i32 65533], .int .i32 a0] ?_; (with_reducible refine (utf_span_rune_has.calls 32 65533 a0 false _ A2.out).mono ?_); rintro e v0_ ⟨rfl, hb⟩; refine ⟨_, rfl, ?_⟩; replace HB := Aside0.mk (below_step zz0 hb); (try clear hb)) | (go_at_call 53; (with_reducible refine (utf_span_rune_has.calls 65536 1114111 a0 t137 _ A5.out).mono ?_); rintro e v1_ ⟨rfl, hb⟩; replace HB := Aside0.mk (below_step zz0 hb); (try clear hb)))
 go_ret; exact ⟨zz4, zz0⟩) : P := h
set_option maxHeartbeats 8000000 in
set_option maxRecDepth 100000 in
theorem utf_shown.calls (a0 : Int) (r : Bool) (w : World) (h : utf_shown.f a0 = some r) :
  Calls Tryz.prog 36 #[.int .i32 a0] w fun e w' => e = .returned (.bool r) ∧ Below w.heap.size w w' := by
 have hu82 := Tryz.underlying82
 have HB := Aside0.mk (Below.refl w.heap.size w)
 have H : ((utf_span_rune_has.f 32 65533 a0).bind fun t136 => (if t136 = true then (some true) else ((utf_span_rune_has.f 65536 1114111 a0).bind fun t137 => (some t137)))) = some r := h
 clear h
 replace H := Option.bind_eq_some_iff.mp H
 obtain ⟨t136, A20, H⟩ := H
 try dsimp only at H
 have A2 := Aside0.mk A20
 clear A20
 by_cases c3 : t136 = true
 ·subst c3
  have H1 : (some true) = some r := by rw [if_pos rfl] at H; exact H
  clear H
  have H := H1
  clear H1
  obtain rfl := Option.some.inj H
  exact lf3
 replace c3 := Bool.eq_false_iff.mpr c3
 subst c3
 have H1 : ((utf_span_rune_has.f 65536 1114111 a0).bind fun t137 => (some t137)) = some r := by rw [if_neg (show ¬ (false = true) by decide)] at H; exact H
 clear H
 have H := H1
 clear H1
 replace H := Option.bind_eq_some_iff.mp H
 obtain ⟨t137, A50, H⟩ := H
 try dsimp only at H
 have A5 := Aside0.mk A50
 clear A50
 obtain rfl := Option.some.inj H
 exact lf3
def utf_may.f (a0 : Int) : Option (Bool) := if a0 = 9 then (some true) else (if a0 = 10 then (some true) else (if a0 = 13 then (some true) else ((utf_shown.f a0).bind fun t138 => (some t138))))
theorem lf4 {P : Prop} (h : P := by
 go_enter Tryz.func99, Tryz.ntmps99
 go_wp2_with (first | (go_at_call 36; (with_reducible refine (utf_shown.calls a0 t138 _ A5.out).mono ?_); rintro e v0_ ⟨rfl, hb⟩; replace HB := Aside0.mk (below_step zz0 hb); (try clear hb)))
 go_ret; exact ⟨zz4, zz0⟩) : P := h
set_option maxHeartbeats 8000000 in
set_option maxRecDepth 100000 in
theorem utf_may.calls (a0 : Int) (r : Bool) (w : World) (h : utf_may.f a0 = some r) :
  Calls Tryz.prog 99 #[.int .i32 a0] w fun e w' => e = .returned (.bool r) ∧ Below w.heap.size w w' := by
 have HB := Aside0.mk (Below.refl w.heap.size w)
 have H : (if a0 = 9 then (some true) else (if a0 = 10 then (some true) else (if a0 = 13 then (some true) else ((utf_shown.f a0).bind fun t138 => (some t138))))) = some r := h
 clear h
 by_cases c2 : a0 = 9
 ·rw [if_pos c2] at H
  obtain ⟨c2b0, c2b1⟩ := eqT c2
  clear c2
  obtain rfl := Option.some.inj H
  exact lf4
 rw [if_neg c2] at H
 obtain ⟨c2b0, c2b1⟩ := eqF c2
 by_cases c3 : a0 = 10
 ·rw [if_pos c3] at H
  obtain ⟨c3b0, c3b1⟩ := eqT c3
  clear c3
  obtain rfl := Option.some.inj H
  exact lf4
 rw [if_neg c3] at H
 obtain ⟨c3b0, c3b1⟩ := eqF c3
 by_cases c4 : a0 = 13
 ·rw [if_pos c4] at H
  obtain ⟨c4b0, c4b1⟩ := eqT c4
  clear c4
  obtain rfl := Option.some.inj H
  exact lf4
 rw [if_neg c4] at H
 obtain ⟨c4b0, c4b1⟩ := eqF c4
 replace H := Option.bind_eq_some_iff.mp H
 obtain ⟨t138, A50, H⟩ := H
 try dsimp only at H
 have A5 := Aside0.mk A50
 clear A50
 obtain rfl := Option.some.inj H
 exact lf4
def utf_Valid.f (a0 : ByteArray) : Option Bool := if a0.size ≤ 17592186044415 then some (validT a0) else none
theorem may_eq (x : Int) : utf_may.f x = some (mayB x) := by
 unfold utf_may.f utf_shown.f utf_span_rune_has.f mayB
 by_cases h1 : x = 9
 ·simp [h1]
 by_cases h2 : x = 10
 ·simp [h2]
 by_cases h3 : x = 13
 ·simp [h3]
 by_cases h4 : x ≥ 32 <;> by_cases h5 : x ≤ 65533 <;> by_cases h6 : x ≥ 65536 <;> by_cases h7 : x ≤ 1114111 <;> simp [*]
theorem utf_Valid.calls (a0 : ByteArray) (r : Bool) (w : World) (h : utf_Valid.f a0 = some r) (hT : Tabs w) :
  Calls Tryz.prog 75 #[.string a0] w fun e w' => e = .returned (.bool r) ∧ Below w.heap.size w w' := by
 unfold utf_Valid.f at h
 split at h
 ·rename_i hs
  obtain rfl := Option.some.inj h
  have hF : IsFn Tryz.prog 99 := ⟨⟨_, Tryz.func99, zz34, rfl⟩⟩
  have H := Aside0.mk (utf_text.hof a0 99 #[] mayB w (by omega) hT hF (fun x W _ _ => utf_may.calls x _ W (may_eq x)))
  clear h hT hs
  go_enter Tryz.func75, Tryz.ntmps75
  go_wp2_with (go_at_call 35; (with_reducible refine H.out.mono ?_); rintro e w' ⟨rfl, hb⟩; have HB := Aside0.mk hb; clear hb H)
  go_ret
  exact ⟨rfl, HB.out⟩
 cases h
def utf_Runes.f (a0 : ByteArray) : Option (List Int) := if a0.size ≤ 17592186044415 then some (if validT a0 then runesI a0 else []) else none
set_option maxHeartbeats 4000000 in
set_option maxRecDepth 100000 in
theorem utf_Runes.calls (a0 : ByteArray) (r : List Int) (w : World) (h : utf_Runes.f a0 = some r) (hT : Tabs w) :
  Calls Tryz.prog 54 #[.string a0] w fun e w' => ∃ v0_ : Value, e = .returned (v0_) ∧ Kd.R (Kd.int .i64) 3 w' w.heap.size (fun _ => True) v0_ r ∧ Below w.heap.size w w' := by
 unfold utf_Runes.f at h
 split at h
 ·rename_i hs
  have HS := Aside0.mk hs
  have HV := Aside0.mk (utf_Valid.calls a0 (validT a0) w (by unfold utf_Valid.f; rw [if_pos hs]) hT)
  obtain rfl := Option.some.inj h
  clear h hT hs
  cases hv : validT a0 with
  | false =>
   rw [hv] at HV
   clear hv
   go_enter Tryz.func54, Tryz.ntmps54
   go_wp2_with (go_at_call 75; (with_reducible refine HV.out.mono ?_); rintro e w1 ⟨rfl, hb⟩; have HB := Aside0.mk hb; clear hb HV)
   go_ret
   exact ⟨_, rfl, Kd.R_nil _ _ _ _ _, HB.out⟩
  | true =>
   rw [hv] at HV
   clear hv
   go_enter Tryz.func54, Tryz.ntmps54
   go_wp2_with (go_at_call 75; (with_reducible refine HV.out.mono ?_); rintro e w1 ⟨rfl, hb⟩; have HB := Aside0.mk hb; clear hb HV)
   have hK : w.heap.size ≤ w1.heap.size := HB.out.size
   have hi0 : (w1.iter a0 0).heap[w1.heap.size]? = some (.stringIter a0 0) := World.iter_heap _ _ _
   have hb0 : Below w.heap.size w (w1.iter a0 0) := by
    have : w1.iter a0 0 = w1.alloc (.stringIter a0 0) := rfl
    rw [this]; exact below_alloc HB.out _
   have HI0 := Aside0.mk hi0
   have HB0 := Aside0.mk hb0
   clear hi0 hb0
   go_loopg [3] (a0.size + 1) (fun gk v3 wr => ∃ (pos : Nat) (acc : List Int), Aside0 (wr.heap[w1.heap.size]? = some (.stringIter a0 pos)) ∧ Aside0 (acc ++ runesN a0.size (a0.data.toList.drop pos) = runesI a0) ∧ a0.size < gk + pos ∧ Aside0 (Kd.R (Kd.int .i64) 3 wr w.heap.size (fun _ => True) v3 acc) ∧ Aside0 (Below w.heap.size w wr))
   case atStart => exact ⟨0, [], HI0, ⟨rfl⟩, by omega, ⟨Kd.R_nil _ _ _ _ _⟩, HB0⟩
   case round =>
    clear HI0 HB0 HB
    obtain ⟨pos, acc, HI, HA, hk, HO, HB⟩ := hrel
    by_cases hp : pos < a0.size
    ·obtain ⟨k', rfl⟩ : ∃ k', gk = k' + 1 := ⟨gk - 1, by omega⟩
     have hr := runes_at a0 hp
     have hw := decode_width a0 pos
     have hc := decode_rune a0 pos
     obtain ⟨c, wd, hd⟩ : ∃ c wd, Utf8.decode a0 pos = (c, wd) := ⟨_, _, rfl⟩
     have hnx : ∀ ty, (Instr.next (.pointer (some ⟨w1.heap.size, 0, none⟩)) true ty).run Tryz.prog wr = .ok (.tuple #[.bool true, .int .i64 pos, .int .i32 c]) (wr.iterAt w1.heap.size a0 (pos + wd)) := fun ty => by rw [run_next_any_at wr w1.heap.size a0 pos ty HI.out hp, hd]
     rw [hd] at hr hw hc
     have ha := HA.out
     rw [hr] at ha
     have hl : acc.length < 17592186044415 := by
      have h1 := congrArg List.length ha
      have h2 := runesI_len a0
      have h3 := HS.out
      rw [List.length_append, List.length_cons] at h1
      omega
     have HA2 := Aside0.mk ha
     have HL := Aside0.mk hl
     have HI2 := Aside0.mk (iterAt_heap wr w1.heap.size a0 pos (pos + wd) HI.out)
     have HO2 := Aside0.mk (R_iterAt HO.out HI.out (pos + wd))
     have HB2 := Aside0.mk (below_iterAt HB.out hK a0 (pos + wd))
     have hcz : (c : Int) ≤ 1114111 := by omega
     clear ha hl hr hd HA HI HO HB hc
     go_wp2_with (first | ((with_reducible refine gate_builtin (b := .append) (xs := #[.tmp 14, .tmp 17]) rfl ?_); at_builtin; refine Kd.R_append (Kd.int .i64) (w0 := w) w.heap.size rfl (.tmp 14) (.tmp 17) 72 3 (.int .i64 0) 8 rfl Tryz.underlying72 info3 rfl (by decide) (by omega) u3 acc c [.int .i64 c] (fun _ => True) (fun _ => False) rfl rfl ?aP (fun _ hk => hk.elim) ?aF ?aO ?aB ?aS ?aL ?_; (case aP => exact rfl); (case aF => exact (fun _ _ => trivial)); (case aO => exact HO2.out); (case aB => exact HB2.out); (case aS => exact HB2.out.size); (case aL => have := HL.out; omega); intro v1 w2 ho hb hg hat; have HI3 := Aside0.mk (iter_grown HI2.out (Kd.R_own HO2.out).choose_spec hg); have HO3 := Aside0.mk ho; have HB3 := Aside0.mk hb; clear ho hb hg hat HI2 HO2 HB2))
     go_roundg k'
     case measure => omega
     case rel => exact ⟨pos + wd, acc ++ [(c : Int)], HI3, ⟨by rw [List.append_assoc]; exact HA2.out⟩, by omega, HO3, HB3⟩
    have hnx : ∀ ty, (Instr.next (.pointer (some ⟨w1.heap.size, 0, none⟩)) true ty).run Tryz.prog wr = .ok (.tuple #[.bool false]) wr := fun ty => run_next_end_at wr w1.heap.size a0 pos ty HI.out hp
    have ha := HA.out
    rw [runes_end a0 hp, List.append_nil] at ha
    have HA2 := Aside0.mk ha
    clear ha HA HI
    go_wp2
    go_ret
    exact ⟨_, rfl, by rw [← HA2.out]; exact HO.out, HB.out⟩
 cases h
theorem flat_take {α β : Type} (T : α → List β) (l : List α) (i : Nat) (h : i < l.length) {x : α} (hx : l[i] = x) : (l.take i).flatMap T ++ T x = (l.take (i + 1)).flatMap T := by
 rw [List.take_succ_eq_append_getElem h, List.flatMap_append, hx]; simp
set_option maxHeartbeats 4000000 in
set_option maxRecDepth 100000 in
theorem prep_mapped_int.hof (A0 : Option Addr) (c0 : Nat) (l0 : List Int) (F : Nat) (caps : Array Value) (Tn : Int → List Int) (w : World)
  (hr0 : Kd.C (Kd.int .i64) w A0 l0.length l0) (hl : l0.length ≤ 140737488351232) (hF : IsFn Tryz.prog F) (hm : (l0.flatMap Tn).length ≤ 17592186044416)
  (hg : ∀ (x : Int) (W : World), x ∈ l0 → Below w.heap.size w W → Calls Tryz.prog F (#[.int .i64 x] ++ caps) W fun e W' => ∃ v, e = .returned v ∧ Kd.R (Kd.int .i64) 3 W' W.heap.size (fun _ => True) v (Tn x) ∧ Below W.heap.size W W') :
  Calls Tryz.prog 91 #[.slice A0 l0.length c0, .func (.func F) #[] caps] w fun e w' => ∃ v0_ : Value, e = .returned (v0_) ∧ Kd.R (Kd.int .i64) 3 w' w.heap.size (fun _ => True) v0_ (l0.flatMap Tn) ∧ Below w.heap.size w w' := by
 have HB := Aside0.mk (Below.refl w.heap.size w)
 have HR := Aside0.mk hr0
 have HG := Aside0.mk hg
 have HM := Aside0.mk hm
 clear hr0 hg hm
 go_enter Tryz.func91, Tryz.ntmps91
 go_wp2
 go_loopg [5, 10] (l0.length + 1) (fun gk v5 v10 wr => ∃ i : Nat, i ≤ l0.length ∧ v10 = .int .i64 i ∧ l0.length < gk + i ∧ Aside0 (Kd.R (Kd.int .i64) 3 wr w.heap.size (fun _ => True) v5 ((l0.take i).flatMap Tn)) ∧ Aside0 (Below w.heap.size w wr))
 case atStart => exact ⟨0, Nat.zero_le _, rfl, by omega, ⟨Kd.R_nil _ _ _ _ _⟩, HB⟩
 case round =>
  clear HB
  obtain ⟨i, hi, rfl, hk, HO, HB⟩ := hrel
  by_cases hlt : i < l0.length
  ·obtain ⟨k', rfl⟩ : ∃ k', gk = k' + 1 := ⟨gk - 1, by omega⟩
   have hltz : (i : Int) < (l0.length : Int) := by omega
   obtain ⟨ad, e1, hx⟩ := Kd.at_int (Kd.C_below HR.out HB.out) (i : Int) (by omega) (by omega)
   cases e1
   rw [Int.toNat_natCast, rd_get l0 i hlt] at hx
   obtain ⟨x, hxx⟩ : ∃ x, l0[i] = x := ⟨_, rfl⟩
   rw [hxx] at hx
   have HX := Aside0.mk hxx
   have HL := Aside0.mk (show ((l0.take i).flatMap Tn ++ Tn x).length ≤ 17592186044416 by
    rw [flat_take Tn l0 i hlt hxx]
    refine Nat.le_trans ?_ HM.out
    have : l0.flatMap Tn = (l0.take (i + 1)).flatMap Tn ++ (l0.drop (i + 1)).flatMap Tn := by rw [← List.flatMap_append, List.take_append_drop]
    rw [this, List.length_append]; omega)
   obtain ⟨acc, hacc⟩ : ∃ acc, (l0.take i).flatMap Tn = acc := ⟨_, rfl⟩
   have HA := Aside0.mk hacc
   rw [hacc] at HO HL
   clear hxx hacc
   go_wp2_with (first | ((with_reducible refine gate_value rfl ?_); refine goesV (some 17) rfl rfl rfl rfl hF #[.int .i64 x] zz39 ?_; (with_reducible refine (HG.out x _ (mem_of_getElem HX.out) HB.out).mono ?_); rintro e w4 ⟨v, rfl, ho, hb⟩; refine ⟨_, rfl, ?_⟩; obtain ⟨A4, c4, rfl, hl4, hC4⟩ := Kd.R_reads ho; have HB2 := Aside0.mk (below_step HB.out hb); have HO2 := Aside0.mk (Kd.R_below HO.out hb); have HC4 := Aside0.mk hC4; clear HB HO hb ho hC4 hl4) | ((with_reducible refine gate_builtin (b := .append) (xs := #[.tmp 14, .tmp 17]) rfl ?_); at_builtin; refine Kd.R_append_rows (Kd.int .i64) (w0 := w) w.heap.size rfl (.tmp 14) (.tmp 17) 72 3 (.int .i64 0) 8 rfl Tryz.underlying72 info3 rfl (by decide) (by omega) u5 acc (Tn x) _ _ _ (fun _ => True) (fun _ => False) rfl rfl ?aO ?aR (fun _ _ h => h) (fun _ h => h.elim) ?aF ?aB ?aS ?aL ?_; (case aR => exact HC4.out); (case aF => exact (fun _ _ => trivial)); (case aO => exact HO2.out); (case aB => exact HB2.out); (case aS => exact below_size HB2.out); (case aL => have := HL.out; rw [List.length_append] at this; omega); intro v5 w5 ho hb5 hg5 hat; have HO3 := Aside0.mk ho; have HB3 := Aside0.mk hb5; clear ho hb5 hg5 hat))
   go_roundg k'
   case measure => omega
   case rel => exact ⟨i + 1, by omega, by go_num, by omega, ⟨by rw [← flat_take Tn l0 i hlt HX.out, HA.out]; exact HO3.out⟩, HB3⟩
  have : i = l0.length := by omega
  subst this
  go_wp2
  go_ret
  exact ⟨_, rfl, by have := HO.out; rw [List.take_length] at this; exact this, HB.out⟩
set_option maxHeartbeats 1000000 in
theorem slices_IndexFunc_int_int.hof (A0 : Option Addr) (c0 : Nat) (l0 : List Int) (F : Nat) (caps : Array Value) (g : Int → Bool) (w : World)
  (hr0 : Kd.C (Kd.int .i64) w A0 l0.length l0) (hl : l0.length ≤ 140737488351232) (hF : IsFn Tryz.prog F)
  (hg : ∀ (x : Int) (W : World), x ∈ l0 → Below w.heap.size w W → Calls Tryz.prog F (#[.int .i64 x] ++ caps) W fun e W' => e = .returned (.bool (g x)) ∧ Below W.heap.size W W') :
  Calls Tryz.prog 112 #[.slice A0 l0.length c0, .func (.func F) #[] caps] w fun e w' => e = .returned (.int .i64 (idxP g l0)) ∧ Below w.heap.size w w' := by
 have HB := Aside0.mk (Below.refl w.heap.size w)
 have HR := Aside0.mk hr0
 have HG := Aside0.mk hg
 clear hr0 hg
 go_enter Tryz.func112, Tryz.ntmps112
 go_wp2
 go_loopg [5, 8] (l0.length + 1) (fun gk v5 v8 wr => ∃ i : Nat, i ≤ l0.length ∧ v8 = .int .i64 i ∧ Aside0 (∀ j (hj : j < i) (hj' : j < l0.length), g (l0[j]'hj') = false) ∧ l0.length < gk + i ∧ Aside0 (Below w.heap.size w wr))
 case atStart => exact ⟨0, Nat.zero_le _, rfl, ⟨fun j hj => absurd hj (by omega)⟩, by omega, HB⟩
 case round =>
  clear HB
  obtain ⟨i, hi, rfl, HN, hk, HB⟩ := hrel
  by_cases hlt : i < l0.length
  ·obtain ⟨k', rfl⟩ : ∃ k', gk = k' + 1 := ⟨gk - 1, by omega⟩
   have hltz : (i : Int) < (l0.length : Int) := by omega
   obtain ⟨ad, e1, hx⟩ := Kd.at_int (Kd.C_below HR.out HB.out) (i : Int) (by omega) (by omega)
   cases e1
   rw [Int.toNat_natCast, rd_get l0 i hlt] at hx
   obtain ⟨x, hxx⟩ : ∃ x, l0[i] = x := ⟨_, rfl⟩
   rw [hxx] at hx
   have HX := Aside0.mk hxx
   clear hxx
   cases hgx : g x with
   | true =>
    have HGX := Aside0.mk hgx
    clear hgx
    go_wp2_with (first | ((with_reducible refine gate_value rfl ?_); refine goesV (some 16) rfl rfl rfl rfl hF #[.int .i64 x] zz39 ?_; (with_reducible refine (HG.out x _ (mem_of_getElem HX.out) HB.out).mono ?_); rintro e w4 ⟨rfl, hb⟩; refine ⟨_, rfl, ?_⟩; have HB2 := Aside0.mk (below_step HB.out hb); clear HB hb; rw [HGX.out]))
    go_ret
    exact ⟨by rw [idxP_hit hlt (fun j hj => HN.out j hj _) (by rw [HX.out]; exact HGX.out)]; rfl, HB2.out⟩
   | false =>
    have HGX := Aside0.mk hgx
    clear hgx
    go_wp2_with (first | ((with_reducible refine gate_value rfl ?_); refine goesV (some 16) rfl rfl rfl rfl hF #[.int .i64 x] zz39 ?_; (with_reducible refine (HG.out x _ (mem_of_getElem HX.out) HB.out).mono ?_); rintro e w4 ⟨rfl, hb⟩; refine ⟨_, rfl, ?_⟩; have HB2 := Aside0.mk (below_step HB.out hb); clear HB hb; rw [HGX.out]))
    go_roundg k'
    case measure => omega
    case rel => exact ⟨i + 1, by omega, by go_num, ⟨fun j hj hj' => by
     rcases Nat.lt_or_ge j i with h | h
     ·exact HN.out j h hj'
     obtain rfl : j = i := by omega
     rw [HX.out]; exact HGX.out⟩, by omega, HB2⟩
  have : i = l0.length := by omega
  subst this
  go_wp2
  go_ret
  exact ⟨by rw [idxP_none (fun j hj => HN.out j hj hj)]; rfl, HB.out⟩
theorem slices_ContainsFunc_int_int.hof (A0 : Option Addr) (c0 : Nat) (l0 : List Int) (F : Nat) (caps : Array Value) (g : Int → Bool) (w : World)
  (hr0 : Kd.C (Kd.int .i64) w A0 l0.length l0) (hl : l0.length ≤ 140737488351232) (hF : IsFn Tryz.prog F)
  (hg : ∀ (x : Int) (W : World), x ∈ l0 → Below w.heap.size w W → Calls Tryz.prog F (#[.int .i64 x] ++ caps) W fun e W' => e = .returned (.bool (g x)) ∧ Below W.heap.size W W') :
  Calls Tryz.prog 92 #[.slice A0 l0.length c0, .func (.func F) #[] caps] w fun e w' => e = .returned (.bool (l0.any g)) ∧ Below w.heap.size w w' := by
 have H := Aside0.mk (slices_IndexFunc_int_int.hof A0 c0 l0 F caps g w hr0 hl hF hg)
 clear hr0 hg hl
 go_enter Tryz.func92, Tryz.ntmps92
 go_wp2_with (go_at_call 112; (with_reducible refine H.out.mono ?_); rintro e w' ⟨rfl, hb⟩; have HB := Aside0.mk hb; clear hb H)
 go_ret
 exact ⟨by rw [← idxP_any]; rfl, HB.out⟩
theorem prep_of_1.hof (x : Int) (b : Nat) (F : Nat) (caps : Array Value) (g : Int → Bool) (w : World) (hF : IsFn Tryz.prog F)
  (hc : w.cell? ⟨b, 1, none⟩ = some (.func (.func F) #[] caps))
  (hg : Calls Tryz.prog F (#[.int .i64 x] ++ caps) w fun e W' => e = .returned (.bool (g x)) ∧ Below w.heap.size w W') :
  Calls Tryz.prog 93 #[.int .i64 x, .pointer (some ⟨b, 0, none⟩)] w fun e w' => e = .returned (.bool (!g x)) ∧ Below w.heap.size w w' := by
 have HG := Aside0.mk hg
 have hu := Tryz.underlying95
 clear hg
 go_enter Tryz.func93, Tryz.ntmps93
 go_wp2_with (first | ((with_reducible refine gate_value rfl ?_); refine goesV (some 7) rfl rfl rfl rfl hF #[.int .i64 x] zz39 ?_; (with_reducible refine HG.out.mono ?_); rintro e w4 ⟨rfl, hb⟩; refine ⟨_, rfl, ?_⟩; have HB2 := Aside0.mk hb; clear hb HG))
 go_ret
 exact ⟨rfl, HB2.out⟩
def ranges_has.f (a0_0 : Int) (a0_1 : Int) (a1 : Int) : Option (Bool) := if a1 ≥ a0_0 then (some (decide (a1 ≤ a0_1))) else (some false)
theorem lf5 {P : Prop} (h : P := by
 go_enter Tryz.func107, Tryz.ntmps107
 go_wp2_with (first | ((with_reducible refine gd 2 ?_); refine bz #[.int .i64 a0_0, .int .i64 a0_1] 119 ?_; intro gb139 hg v0_ hbox hb; have n_ := as4 (below_step zz0 hb) hbox (gs w hg zz0) (gs w hg zz0); clear HB; obtain ⟨HB, BK139, GW139, GE139⟩ := n_; clear hb hbox hg; obtain ⟨hcz139_0, hcz139_1⟩ := cz2 BK139.out; obtain ⟨hfz139_0, hfz139_1⟩ := fz2 BK139.out))
 go_ret; exact ⟨zz4, by repeat (first | (with_reducible first | exact HB.out | apply below_alloc | apply pw_below_drewN | apply below_drew1 | refine below_set ?_ GE139.out) | exact HB.out)⟩) : P := h
set_option maxHeartbeats 8000000 in
set_option maxRecDepth 100000 in
theorem ranges_has.calls (a0_0 : Int) (a0_1 : Int) (a1 : Int) (r : Bool) (w : World) (h : ranges_has.f a0_0 a0_1 a1 = some r) :
  Calls Tryz.prog 107 #[.agg #[.int .i64 a0_0, .int .i64 a0_1], .int .i64 a1] w fun e w' => e = .returned (.bool r) ∧ Below w.heap.size w w' := by
 have hu119 := Tryz.underlying119
 have HB := Aside0.mk (Below.refl w.heap.size w)
 have H : (if a1 ≥ a0_0 then (some (decide (a1 ≤ a0_1))) else (some false)) = some r := h
 clear h
 by_cases c3 : a1 ≥ a0_0
 ·rw [if_pos c3] at H
  have c3b0 := decide_eq_true c3
  clear c3
  obtain rfl := Option.some.inj H
  exact lf5
 rw [if_neg c3] at H
 have c3b0 := decide_eq_false c3
 clear c3
 obtain rfl := Option.some.inj H
 exact lf5
set_option maxHeartbeats 4000000 in
set_option maxRecDepth 100000 in
theorem api_Range_int.hof (A0 : Option Addr) (c0 : Nat) (l0 : List (S119)) (a1 : Int) (F : Nat) (caps : Array Value) (g : S119 → Bool) (w : World)
  (hr0 : Kd.C k119 w A0 l0.length l0) (hl : l0.length ≤ 140737488351232) (hF : IsFn Tryz.prog F)
  (hg : ∀ (x : S119) (W : World), Below w.heap.size w W → Calls Tryz.prog F (#[.agg #[.int .i64 x.f0, .int .i64 x.f1], .int .i64 a1] ++ caps) W fun e W' => e = .returned (.bool (g x)) ∧ Below W.heap.size W W') :
  Calls Tryz.prog 106 #[.slice A0 l0.length c0, .int .i64 a1, .func (.func F) #[] caps] w fun e w' => e = .returned (.bool (l0.any g)) ∧ Below w.heap.size w w' := by
 have HB := Aside0.mk (Below.refl w.heap.size w)
 have HR := Aside0.mk hr0
 have HG := Aside0.mk hg
 have hu := Tryz.underlying119
 clear hr0 hg
 go_enter Tryz.func106, Tryz.ntmps106
 go_wp2
 go_loopg [11] (l0.length + 1) (fun gk v11 wr => ∃ i : Nat, i ≤ l0.length ∧ v11 = .int .i64 i ∧ Aside0 (∀ j (hj : j < i) (hj' : j < l0.length), g (l0[j]'hj') = false) ∧ l0.length < gk + i ∧ Aside0 (Below w.heap.size w wr))
 case atStart => exact ⟨0, Nat.zero_le _, rfl, ⟨fun j hj => absurd hj (by omega)⟩, by omega, HB⟩
 case round =>
  clear HB
  obtain ⟨i, hi, rfl, HN, hk, HB⟩ := hrel
  by_cases hlt : i < l0.length
  ·obtain ⟨k', rfl⟩ : ∃ k', gk = k' + 1 := ⟨gk - 1, by omega⟩
   have hltz : (i : Int) < (l0.length : Int) := by omega
   obtain ⟨ad, e1, hx, hy⟩ := at_T119 (Kd.C_below HR.out HB.out) (i : Int) (by omega) (by omega)
   cases e1
   rw [Int.toNat_natCast] at hx hy
   obtain ⟨x, hxx⟩ : ∃ x, rd_T119 l0 (i : Int) = x := ⟨_, rfl⟩
   rw [hxx] at hx hy
   have HX := Aside0.mk (show l0[i] = x by rw [← hxx]; simp [rd_T119, hlt])
   clear hxx
   cases hgx : g x with
   | true =>
    have HGX := Aside0.mk hgx
    clear hgx
    go_wp2_with (first | ((with_reducible refine gate_value rfl ?_); refine goesV (some 18) rfl rfl rfl rfl hF #[.agg #[.int .i64 x.f0, .int .i64 x.f1], .int .i64 a1] zz39 ?_; (with_reducible refine (HG.out x _ zz0).mono ?_); rintro e w4 ⟨rfl, hb⟩; refine ⟨_, rfl, ?_⟩; have HB2 := Aside0.mk (below2 zz0 hb); clear HB hb; rw [HGX.out]))
    go_ret
    exact ⟨by rw [show l0.any g = true from by rw [List.any_eq_true]; exact ⟨x, mem_of_getElem HX.out, HGX.out⟩]; rfl, HB2.out⟩
   | false =>
    have HGX := Aside0.mk hgx
    clear hgx
    go_wp2_with (first | ((with_reducible refine gate_value rfl ?_); refine goesV (some 18) rfl rfl rfl rfl hF #[.agg #[.int .i64 x.f0, .int .i64 x.f1], .int .i64 a1] zz39 ?_; (with_reducible refine (HG.out x _ zz0).mono ?_); rintro e w4 ⟨rfl, hb⟩; refine ⟨_, rfl, ?_⟩; have HB2 := Aside0.mk (below2 zz0 hb); clear HB hb; rw [HGX.out]))
    go_roundg k'
    case measure => omega
    case rel => exact ⟨i + 1, by omega, by go_num, ⟨fun j hj hj' => by
     rcases Nat.lt_or_ge j i with h | h
     ·exact HN.out j h hj'
     obtain rfl : j = i := by omega
     rw [HX.out]; exact HGX.out⟩, by omega, HB2⟩
  have : i = l0.length := by omega
  subst this
  go_wp2
  go_ret
  exact ⟨by rw [show l0.any g = false from by rw [List.any_eq_false]; intro x hx; obtain ⟨j, hj, rfl⟩ := List.getElem_of_mem hx; rw [HN.out j hj hj]; simp]; rfl, HB.out⟩
def inR (c : Int) (x : S119) : Bool := decide (x.f0 ≤ c) && decide (c ≤ x.f1)
theorem has_eq (x : S119) (c : Int) : ranges_has.f x.f0 x.f1 c = some (inR c x) := by
 unfold ranges_has.f inR
 by_cases h : c ≥ x.f0
 ·rw [if_pos h, decide_eq_true (show x.f0 ≤ c from h)]; rfl
 rw [if_neg h, decide_eq_false (show ¬ x.f0 ≤ c from h)]; rfl
def ranges_In.f (l0 : List (S119)) (a1 : Int) : Option Bool := if l0.length ≤ 1000000 then some (l0.any (inR a1)) else none
set_option maxHeartbeats 4000000 in
set_option maxRecDepth 100000 in
theorem ranges_In.calls (A0 : Option Addr) (c0 : Nat) (l0 : List (S119)) (a1 : Int) (r : Bool) (w : World) (hr0 : Kd.C k119 w A0 l0.length l0) (hc0 : l0.length ≤ c0) (h : ranges_In.f l0 a1 = some r) :
  Calls Tryz.prog 84 #[.slice A0 l0.length c0, .int .i64 a1] w fun e w' => e = .returned (.bool r) ∧ Below w.heap.size w w' := by
 unfold ranges_In.f at h
 split at h
 ·rename_i hl
  obtain rfl := Option.some.inj h
  have hF : IsFn Tryz.prog 107 := ⟨⟨_, Tryz.func107, zz34, rfl⟩⟩
  have H := Aside0.mk (api_Range_int.hof A0 c0 l0 a1 107 #[] (inR a1) w hr0 (by omega) hF (fun x W _ => ranges_has.calls x.f0 x.f1 a1 _ W (has_eq x a1)))
  clear hr0 hc0 h hl hF
  go_enter Tryz.func84, Tryz.ntmps84
  go_wp2_with (go_at_call 106; (with_reducible refine H.out.mono ?_); rintro e w' ⟨rfl, hb⟩; have HB := Aside0.mk hb; clear hb H)
  go_ret
  exact ⟨rfl, HB.out⟩
 cases h
def ranges_made_1.f (a0 : Int) (a1 : Int) : Option (Int × Int) := some (a0, a1)
set_option maxHeartbeats 8000000 in
set_option maxRecDepth 100000 in
theorem ranges_made_1.calls (a0 : Int) (a1 : Int) (r1 : Int) (r2 : Int) (w : World) (h : ranges_made_1.f a0 a1 = some (r1, r2)) :
  Calls Tryz.prog 128 #[.int .i64 a0, .int .i64 a1] w fun e w' => e = .returned (.agg #[.int .i64 r1, .int .i64 r2]) ∧ Below w.heap.size w w' := by
 have hu119 := Tryz.underlying119
 have HB := Aside0.mk (Below.refl w.heap.size w)
 have H : (some (a0, a1)) = some (r1, r2) := h
 clear h
 simp only [Option.some.injEq, Prod.mk.injEq] at H
 obtain ⟨rfl, rfl⟩ := H
 go_enter Tryz.func128, Tryz.ntmps128
 go_wp2_with (first | ((with_reducible refine gd 4 ?_); refine bz #[.int .i64 0, .int .i64 0] 119 ?_; intro gb140 hg w3 hbox hb; have n_ := as4 (below_step zz0 hb) hbox (gs w hg zz0) (gs w hg zz0); clear HB; obtain ⟨HB, BK140, GW140, GE140⟩ := n_; clear hb hbox hg; obtain ⟨hcz4_0, hcz4_1⟩ := cz2 BK140.out; obtain ⟨hfz4_0, hfz4_1⟩ := fz2 BK140.out))
 refine bodyPost_ret (results_cell_row rfl _ _ gb140 119 #[.int .i64 a0, .int .i64 a1] (0, 0) _ rfl (by (with_reducible repeat (first | refine blk_drewN ?_ _ | refine blk_drew ?_ | refine blk_alloc ?_ _)); refine blk_put (cs := #[.int .i64 a0, .int .i64 0]) ?_ 1 _ rfl; (with_reducible repeat (first | refine blk_drewN ?_ _ | refine blk_drew ?_ | refine blk_alloc ?_ _)); refine blk_put (cs := #[.int .i64 0, .int .i64 0]) ?_ 0 _ rfl; (with_reducible repeat (first | refine blk_drewN ?_ _ | refine blk_drew ?_ | refine blk_alloc ?_ _)); exact BK140.out) Tryz.underlying119 rfl zz34) rfl ?_
 exact ⟨zz4, by repeat (first | (with_reducible first | exact HB.out | apply below_alloc | apply pw_below_drewN | apply below_drew1 | refine below_set ?_ GE140.out) | exact HB.out)⟩
def pairsL : List Int → List (S119)
 | a :: b :: l => ⟨a, b⟩ :: pairsL l
 | _ => []
theorem pairsL_len : ∀ l, (pairsL l).length ≤ l.length
 | [] => by simp [pairsL]
 | [_] => by simp [pairsL]
 | a :: b :: l => by have := pairsL_len l; simp [pairsL]; omega
theorem two_firsts (l : List Int) (h : 2 ≤ l.length) : ∃ x y l1, l = x :: y :: l1 := by
 match l, h with
 | x :: y :: l1, _ => exact ⟨x, y, l1, rfl⟩
theorem pairsL_short (l : List Int) (h : ¬ 1 < l.length) : pairsL l = [] := by
 match l, h with
 | [], _ => rfl
 | [_], _ => rfl
 | _ :: _ :: _, h => simp at h
set_option maxHeartbeats 4000000 in
set_option maxRecDepth 100000 in
theorem api_Range.hof (A0 : Option Addr) (c0 : Nat) (l0 : List Int) (w : World)
  (hr0 : Kd.C (Kd.int .i64) w A0 l0.length l0) (hc0 : l0.length ≤ c0) (hl : l0.length ≤ 1000000) :
  Calls Tryz.prog 127 #[.agg #[.slice A0 l0.length c0], .func (.func 128) #[] #[]] w fun e w' => ∃ v0_ : Value, e = .returned (v0_) ∧ Kd.R k119 119 w' w.heap.size (fun _ => True) v0_ (pairsL l0) ∧ Below w.heap.size w w' := by
 have HR := Aside0.mk hr0
 have HL := Aside0.mk hl
 have HC := Aside0.mk hc0
 clear hr0 hl hc0
 have hu := Tryz.underlying129
 have hF : IsFn Tryz.prog 128 := ⟨⟨_, Tryz.func128, zz34, rfl⟩⟩
 go_enter Tryz.func127, Tryz.ntmps127
 go_wp2
 go_loopg [5, 6] (l0.length + 1) (fun gk v5 v6 wr => ∃ (A : Option Addr) (c : Nat) (rest : List Int) (acc : List (S119)), v6 = .slice A rest.length c ∧ Aside0 (rest.length ≤ c) ∧ Aside0 (Kd.C (Kd.int .i64) w A rest.length rest) ∧ Aside0 (acc ++ pairsL rest = pairsL l0) ∧ rest.length < gk ∧ Aside0 (Kd.R k119 119 wr w.heap.size (fun _ => True) v5 acc) ∧ Aside0 (Below w.heap.size w wr))
 case atStart => exact ⟨A0, c0, l0, [], rfl, HC, HR, ⟨rfl⟩, by omega, ⟨Kd.R_nil _ _ _ _ _⟩, ⟨below_alloc (Below.refl _ _) _⟩⟩
 case round =>
  clear HR HC
  obtain ⟨A, c, rest, acc, rfl, HC, HR, HA, hk, HO, HB⟩ := hrel
  by_cases hlt : (1 : Int) < (rest.length : Int)
  ·obtain ⟨k', rfl⟩ : ∃ k', gk = k' + 1 := ⟨gk - 1, by omega⟩
   obtain ⟨ad, e1, hx⟩ := Kd.at_int (Kd.C_below HR.out HB.out) 0 (by omega) (by omega)
   cases e1
   obtain ⟨ad', e2, hy⟩ := Kd.at_int (Kd.C_below HR.out HB.out) 1 (by omega) (by omega)
   cases e2
   rw [Int.toNat_zero, Addr.add_zero'] at hx
   rw [show (1 : Int).toNat = 1 from rfl] at hy
   obtain ⟨x, y, l1, hxy⟩ := two_firsts rest (by omega)
   have ex : rd rest 0 = x := by rw [hxy]; rfl
   have ey : rd rest 1 = y := by rw [hxy]; rfl
   rw [ex] at hx
   rw [ey] at hy
   have HXY := Aside0.mk hxy
   have hy2 : wr.cell? ⟨ad.block, ad.off + 1, none⟩ = some (.int .i64 y) := by rw [← hy]; simp [Addr.add]
   have h0n : 0 < rest.length := by omega
   have h0e : ¬ rest = [] := by rw [hxy]; simp
   clear hy
   have h0 : (0 : Int) < (rest.length : Int) := by omega
   obtain ⟨i0, hi0, hz0, hz1, hz2⟩ := info_parts info3
   obtain ⟨A2, l2, c2, hl2, hcut, hC2, hc2⟩ := cut_drop (P := Tryz.prog) (Kd.int .i64) 72 3 .i64 Tryz.underlying72 hi0 hz1 (some ad) c rest 2 2 rfl (by omega) HC.out
   have HC2 := Aside0.mk (hC2 w HR.out)
   have HC3 := Aside0.mk hc2
   have HL2 := Aside0.mk hl2
   clear hC2 hc2 hl2 hi0 hz0 hz1 hz2
   have HLA := Aside0.mk (show acc.length ≤ 1000000 by
    have h1 := congrArg List.length HA.out
    have h2 := pairsL_len l0
    have h3 := HL.out
    rw [List.length_append] at h1
    omega)
   clear ex ey hxy
   go_wp2_with fail
   refine start_ (n := 12) (S := fun w' => w'.cell? ad = some (.int .i64 x) ∧ w'.cell? ⟨ad.block, ad.off + 1, none⟩ = some (.int .i64 y)) (ds := [8, 9, 10]) #[false, false, false, false, false, false, false, false, false, false, false, false] zz34 rfl rfl ⟨hx, hy2⟩ (fun hHeld => ?_)
   refine pure_ (i := 0) (N := some 14) (v := ?_) (a' := ?_) #[true, false, false, false, false, false, false, false, false, false, false, false] rfl rfl zz34 (fun _ _ _ h => h) (Or.inl ⟨by rfl, ?_⟩) ?_ ?_
   rotate_left
   ·intro w'
    go_simp
    with_reducible rfl
   rotate_left
   ·simp only [Act.put, setIfInBounds_toArray, set_cons_zero, set_cons_succ, i64_w, i32_w]
    rfl
   refine pure_ (i := 1) (N := some 15) (v := ?_) (a' := ?_) #[true, true, false, false, false, false, false, false, false, false, false, false] rfl rfl zz34 (fun _ _ _ h => h) (Or.inl ⟨by rfl, ?_⟩) ?_ ?_
   rotate_left
   ·intro w'
    go_simp
    with_reducible rfl
   rotate_left
   ·simp only [Act.put, setIfInBounds_toArray, set_cons_zero, set_cons_succ, i64_w, i32_w]
    rfl
   refine pure_ (i := 2) (N := some 16) (v := ?_) (a' := ?_) #[true, true, true, false, false, false, false, false, false, false, false, false] rfl rfl zz34 (fun _ _ _ h => h) (Or.inl ⟨by rfl, ?_⟩) ?_ ?_
   rotate_left
   ·intro w'
    go_simp
    with_reducible rfl
   rotate_left
   ·simp only [Act.put, setIfInBounds_toArray, set_cons_zero, set_cons_succ, i64_w, i32_w]
    rfl
   refine pure_ (i := 3) (N := some 17) (v := ?_) (a' := ?_) #[true, true, true, true, false, false, false, false, false, false, false, false] rfl rfl zz34 (fun _ _ _ h => h) (Or.inl ⟨by rfl, ?_⟩) ?_ ?_
   rotate_left
   ·intro w'
    go_simp
    with_reducible rfl
   rotate_left
   ·simp only [Act.put, setIfInBounds_toArray, set_cons_zero, set_cons_succ, i64_w, i32_w]
    rfl
   refine pure_ (i := 5) (N := some 19) (v := ?_) (a' := ?_) #[true, true, true, true, false, true, false, false, false, false, false, false] rfl rfl zz34 (fun _ _ _ h => h) (Or.inl ⟨by rfl, ?_⟩) ?_ ?_
   rotate_left
   ·intro w'
    go_simp
    with_reducible rfl
   rotate_left
   ·simp only [Act.put, setIfInBounds_toArray, set_cons_zero, set_cons_succ, i64_w, i32_w]
    rfl
   refine pure_ (i := 6) (N := some 20) (v := ?_) (a' := ?_) #[true, true, true, true, false, true, true, false, false, false, false, false] rfl rfl zz34 (fun _ _ _ h => h) (Or.inl ⟨by rfl, ?_⟩) ?_ ?_
   rotate_left
   ·intro w'
    go_simp
    with_reducible rfl
   rotate_left
   ·simp only [Act.put, setIfInBounds_toArray, set_cons_zero, set_cons_succ, i64_w, i32_w]
    rfl
   refine take_ (i := 4) (N := some 18) (v := ?_) (a' := ?_) #[true, true, true, true, true, true, true, false, false, false, false, false] rfl rfl zz34 (fun _ _ _ h => h) (Or.inl ⟨by rfl, ?_⟩) hHeld ?_ ?_
   rotate_left
   ·rintro w' ⟨s0, s1⟩
    go_simp
    with_reducible rfl
   rotate_left
   ·simp only [Act.put, setIfInBounds_toArray, set_cons_zero, set_cons_succ, i64_w, i32_w]
    rfl
   refine take_ (i := 7) (N := some 21) (v := ?_) (a' := ?_) #[true, true, true, true, true, true, true, true, false, false, false, false] rfl rfl zz34 (fun _ _ _ h => h) (Or.inl ⟨by rfl, ?_⟩) hHeld ?_ ?_
   rotate_left
   ·rintro w' ⟨s0, s1⟩
    go_simp
    with_reducible rfl
   rotate_left
   ·simp only [Act.put, setIfInBounds_toArray, set_cons_zero, set_cons_succ, i64_w, i32_w]
    rfl
   refine last_ (i := 8) (N := some 22) #[true, true, true, true, true, true, true, true, true, false, false, false] rfl rfl zz34 (by decide) (fun K hK => ?_)
   refine goesR rfl rfl hF #[.int .i64 x, .int .i64 y] (by rfl) rfl zz39 ?_
   refine calls_of_args (args' := #[.int .i64 x, .int .i64 y]) rfl ?_
   with_reducible refine (ranges_made_1.calls x y x y _ rfl).mono ?_
   rintro e w4 ⟨rfl, hb⟩
   refine ⟨_, rfl, ?_⟩
   have HB2 := Aside0.mk (below2 zz0 hb)
   have HO2 := Aside0.mk (Kd.R_below (by (with_reducible repeat (first | apply Kd.R_alloc | apply Kd.R_drewN | apply Kd.R_drew)); exact HO.out) hb)
   refine hK.out _ _ ?_
   clear hK K
   refine norm_ (a' := ?_) ?_ ?_
   rotate_left
   ·show Act.put _ (some 22) _ = _
    simp only [Act.put, setIfInBounds_toArray, set_cons_zero, set_cons_succ, i64_w, i32_w]
    rfl
   refine last_ (i := 9) (N := some 23) #[true, true, true, true, true, true, true, true, true, true, false, false] rfl rfl zz34 (by decide) (fun K hK => ?_)
   refine value_ (w1 := ?_) (v := ?_) (by rfl) rfl ?_ ?_
   rotate_left 2
   ·go_simp
    constructor
    ·rfl
    rfl
   refine hK.out _ _ ?_
   clear hK K
   refine norm_ (a' := ?_) ?_ ?_
   rotate_left
   ·show Act.put _ (some 23) _ = _
    simp only [Act.put, setIfInBounds_toArray, set_cons_zero, set_cons_succ, i64_w, i32_w]
    rfl
   refine last_ (i := 10) (N := some 24) #[true, true, true, true, true, true, true, true, true, true, true, false] rfl rfl zz34 (by decide) (fun K hK => ?_)
   refine Kd.R_append_step k119 (w0 := w) w.heap.size rfl (.tmp 14) (.tmp 23) 105 119 (.agg #[(.int .i64 0), (.int .i64 0)]) 16 rfl Tryz.underlying105 info119 rfl (by decide) (by omega) u5 acc (⟨x, y⟩ : S119) [.int .i64 x, .int .i64 y] (fun _ => True) (fun _ => False) rfl rfl (k119_mkM _ _ _ _) (fun _ hk => hk.elim) (fun _ _ => trivial) HO2.out HB2.out (below_size HB2.out) (by have := HLA.out; omega) ?_
   intro v1 w5 ho hb5 hg hat
   have HO3 := Aside0.mk ho
   have HB3 := Aside0.mk hb5
   refine hK.out _ _ ?_
   clear hK K
   refine norm_ (a' := ?_) ?_ ?_
   rotate_left
   ·show Act.put _ (some 24) _ = _
    simp only [Act.put, setIfInBounds_toArray, set_cons_zero, set_cons_succ, i64_w, i32_w]
    rfl
   refine pure_ (i := 11) (N := some 5) (v := ?_) (a' := ?_) #[true, true, true, true, true, true, true, true, true, true, true, true] rfl rfl zz34 (fun _ _ _ h => h) (Or.inl ⟨by rfl, ?_⟩) ?_ ?_
   rotate_left
   ·intro w'
    go_simp
    with_reducible rfl
   rotate_left
   ·simp only [Act.put, setIfInBounds_toArray, set_cons_zero, set_cons_succ, i64_w, i32_w]
    rfl
   refine done_ zz34 ?_
   clear hx hy2 hHeld h0n h0e h0 HB HO HB2 HO2
   go_wp2
   go_roundg k'
   case measure => omega
   case rel => exact ⟨A2, c2, l2, acc ++ [⟨x, y⟩], rfl, HC3, HC2, ⟨by rw [List.append_assoc, ← HA.out, HL2.out, HXY.out]; rfl⟩, by rw [HL2.out, List.length_drop]; omega, HO3, HB3⟩
  go_wp2
  go_ret
  refine ⟨_, rfl, ?_, HB.out⟩
  have h1 := HA.out
  rw [pairsL_short rest (by omega), List.append_nil] at h1
  rw [← h1]; exact HO.out
def ranges_made.f (l0 : List Int) : Option (List (S119)) := if l0.length ≤ 1000000 then some (pairsL l0) else none
set_option maxHeartbeats 4000000 in
set_option maxRecDepth 100000 in
theorem ranges_made.calls (A0 : Option Addr) (c0 : Nat) (l0 : List Int) (r : List (S119)) (w : World) (hr0 : Kd.C (Kd.int .i64) w A0 l0.length l0) (hc0 : l0.length ≤ c0) (h : ranges_made.f l0 = some r) :
  Calls Tryz.prog 108 #[.slice A0 l0.length c0] w fun e w' => ∃ v0_ : Value, e = .returned (v0_) ∧ Kd.R k119 119 w' w.heap.size (fun _ => True) v0_ r ∧ Below w.heap.size w w' := by
 unfold ranges_made.f at h
 split at h
 ·rename_i hl
  obtain rfl := Option.some.inj h
  have H := Aside0.mk (api_Range.hof A0 c0 l0 w hr0 hc0 hl)
  clear hr0 hc0 h hl
  go_enter Tryz.func108, Tryz.ntmps108
  go_wp2_with (go_at_call 127; (with_reducible refine H.out.mono ?_); rintro e w' ⟨v, rfl, ho, hb⟩; have HO := Aside0.mk ho; have HB := Aside0.mk hb; clear hb ho H)
  go_ret
  exact ⟨_, rfl, HO.out, HB.out⟩
 cases h
def ranges_RightLeft.f  : Option ((List (S119))) := (ranges_made.f (([1424, 1535, 1536, 1791, 64285, 64335] : List Int))).bind fun t144 => (some t144)
set_option maxHeartbeats 8000000 in
set_option maxRecDepth 100000 in
theorem ranges_RightLeft.calls  (r : List (S119)) (w : World) (h : ranges_RightLeft.f  = some r) :
  Calls Tryz.prog 86 #[] w fun e w' => ∃ v0_ : Value, e = .returned (v0_) ∧ Kd.R k119 119 w' w.heap.size (fun _ => True) v0_ r ∧ Below w.heap.size w w' := by
 have HB := Aside0.mk (Below.refl w.heap.size w)
 have H : ((ranges_made.f (([1424, 1535, 1536, 1791, 64285, 64335] : List Int))).bind fun t144 => (some t144)) = some r := h
 clear h
 obtain ⟨y141, hy141⟩ : ∃ y_ : List Int, y_ = (([1424, 1535, 1536, 1791, 64285, 64335] : List Int)) := ⟨_, rfl⟩
 replace H : ((ranges_made.f y141).bind fun t144 => (some t144)) = some r := by first | (rw [hy141]; with_reducible exact H) | (have H2_ := (Option.bind_some _ _).symm.trans H; rw [hy141]; with_reducible exact H2_) | (have H2_ := (Option.bind_some _ _).symm.trans H; with_reducible exact H2_) | with_reducible exact H | (rw [hy141]; exact H) | exact H
 have Ny141 := Aside0.mk hy141
 clear hy141
 replace H := Option.bind_eq_some_iff.mp H
 obtain ⟨t144, A10, H⟩ := H
 try dsimp only at H
 have A1 := Aside0.mk A10
 clear A10
 obtain rfl := Option.some.inj H
 go_enter Tryz.func86, Tryz.ntmps86
 go_wp2_with (first | ((with_reducible refine gate_dst (N := 1) rfl ?_); refine Kd.R_lit (Kd.int .i64) _ 3 ?hg (N := 1) ?hd (xs := ([1424, 1535, 1536, 1791, 64285, 64335] : List Int)) (inner := [.int .i64 1424, .int .i64 1535, .int .i64 1536, .int .i64 1791, .int .i64 64285, .int .i64 64335]) (ok := fun _ => True) (okp := fun _ => True) ?hr ?hp (fun _ hk => hk) trivial (Below.refl _ _) (Nat.le_refl _) (by simp) ?_; (case hd => rfl); (case hg => rfl); (case hr => exact zz29); (case hp => exact (Reps.one (show Kd.M (Kd.int .i64) _ _ _ 1424 [.int .i64 1424] from rfl) (Reps.one (show Kd.M (Kd.int .i64) _ _ _ 1535 [.int .i64 1535] from rfl) (Reps.one (show Kd.M (Kd.int .i64) _ _ _ 1536 [.int .i64 1536] from rfl) (Reps.one (show Kd.M (Kd.int .i64) _ _ _ 1791 [.int .i64 1791] from rfl) (Reps.one (show Kd.M (Kd.int .i64) _ _ _ 64285 [.int .i64 64285] from rfl) (Reps.one (show Kd.M (Kd.int .i64) _ _ _ 64335 [.int .i64 64335] from rfl) (Reps.none _ _)))))))); intro v142 w2 ho3 hb hg_ hnew_; clear hg_ hnew_; (first | rw [← Ny141.out] at ho3 | (simp only [Int.reduceToNat] at ho3; rw [← Ny141.out] at ho3)); have n_ := as2 (Kd.R_lower ho3 (below_size zz0)) (below_step zz0 hb); clear HB; obtain ⟨HO143, HB⟩ := n_; clear hb ho3; obtain ⟨Ao4, co4, eo4⟩ := Kd.R_slice HO143.out; subst eo4) | ((with_reducible refine gc 108 ?_); refine gL (some 2) Tryz.func108 #[.slice Ao4 y141.length co4] ?_; (with_reducible refine (ranges_made.calls _ _ y141 t144 _ ?side1 ?side2 A1.out).mono ?_); (case side1 => exact (by repeat (first | exact (Kd.R_reads' HO143.out).2.2 | (with_reducible refine Kd.C_alloc ?_ _) | (with_reducible refine Kd.C_drewN ?_ _) | (with_reducible refine Kd.C_drew ?_)))); (case side2 => exact (Kd.R_reads' HO143.out).2.1); rintro e w5 ⟨v145, rfl, ho0, hb⟩; refine ⟨_, rfl, ?_⟩; have n_ := as3 (Kd.R_below (by (with_reducible repeat (first | apply Kd.R_alloc | apply Kd.R_drewN | apply Kd.R_drew)); exact HO143.out) hb) (Kd.R_lower ho0 (below_size zz0)) (below_step zz0 hb); clear HO143 HB; obtain ⟨HO143, HO146, HB⟩ := n_; (try clear hb ho0)))
 go_ret
 exact ⟨_, zz4, by (with_reducible repeat (first | apply Kd.R_alloc | apply Kd.R_drewN | apply Kd.R_drew)); exact HO146.out, zz0⟩
def prep_straight_1.f (a0 : Int) : Option (Bool) := (ranges_RightLeft.f).bind fun t147 => ((ranges_In.f t147 a0).bind fun t150 => (some t150))
set_option maxHeartbeats 8000000 in
set_option maxRecDepth 100000 in
theorem prep_straight_1.calls (a0 : Int) (r : Bool) (w : World) (h : prep_straight_1.f a0 = some r) :
  Calls Tryz.prog 113 #[.int .i64 a0] w fun e w' => e = .returned (.bool r) ∧ Below w.heap.size w w' := by
 have HB := Aside0.mk (Below.refl w.heap.size w)
 have H : ((ranges_RightLeft.f).bind fun t147 => ((ranges_In.f t147 a0).bind fun t150 => (some t150))) = some r := h
 clear h
 replace H := Option.bind_eq_some_iff.mp H
 obtain ⟨t147, A20, H⟩ := H
 try dsimp only at H
 have A2 := Aside0.mk A20
 clear A20
 replace H := Option.bind_eq_some_iff.mp H
 obtain ⟨t150, A30, H⟩ := H
 try dsimp only at H
 have A3 := Aside0.mk A30
 clear A30
 obtain rfl := Option.some.inj H
 go_enter Tryz.func113, Tryz.ntmps113
 go_wp2_with (first | ((with_reducible refine gc 86 ?_); refine gL (some 3) Tryz.func86 #[] ?_; (with_reducible refine (ranges_RightLeft.calls  t147 _ A2.out).mono ?_); rintro e w4 ⟨v148, rfl, ho0, hb⟩; refine ⟨_, rfl, ?_⟩; have n_ := as2 (Kd.R_lower ho0 (below_size zz0)) (below_step zz0 hb); clear HB; obtain ⟨HO149, HB⟩ := n_; (try clear hb ho0); obtain ⟨Ao5, co5, eo5⟩ := Kd.R_slice HO149.out; subst eo5) | ((with_reducible refine gc 84 ?_); refine gL (some 5) Tryz.func84 #[.slice Ao5 t147.length co5, .int .i64 a0] ?_; (with_reducible refine (ranges_In.calls _ _ t147 a0 t150 _ ?side1 ?side2 A3.out).mono ?_); (case side1 => exact (by repeat (first | exact (Kd.R_reads' HO149.out).2.2 | (with_reducible refine Kd.C_alloc ?_ _) | (with_reducible refine Kd.C_drewN ?_ _) | (with_reducible refine Kd.C_drew ?_)))); (case side2 => exact (Kd.R_reads' HO149.out).2.1); rintro e w6 ⟨rfl, hb⟩; refine ⟨_, rfl, ?_⟩; have n_ := as2 (Kd.R_below (by (with_reducible repeat (first | apply Kd.R_alloc | apply Kd.R_drewN | apply Kd.R_drew)); exact HO149.out) hb) (below_step zz0 hb); clear HO149 HB; obtain ⟨HO149, HB⟩ := n_; (try clear hb)))
 go_ret
 exact ⟨zz4, zz0⟩
def ranges_Letters.f  : Option ((List (S119))) := (ranges_made.f (([65, 90, 97, 122, 192, 214, 216, 246, 248, 591, 880, 1327, 19968, 40959] : List Int))).bind fun t154 => (some t154)
set_option maxHeartbeats 8000000 in
set_option maxRecDepth 100000 in
theorem ranges_Letters.calls  (r : List (S119)) (w : World) (h : ranges_Letters.f  = some r) :
  Calls Tryz.prog 85 #[] w fun e w' => ∃ v0_ : Value, e = .returned (v0_) ∧ Kd.R k119 119 w' w.heap.size (fun _ => True) v0_ r ∧ Below w.heap.size w w' := by
 have HB := Aside0.mk (Below.refl w.heap.size w)
 have H : ((ranges_made.f (([65, 90, 97, 122, 192, 214, 216, 246, 248, 591, 880, 1327, 19968, 40959] : List Int))).bind fun t154 => (some t154)) = some r := h
 clear h
 obtain ⟨y151, hy151⟩ : ∃ y_ : List Int, y_ = (([65, 90, 97, 122, 192, 214, 216, 246, 248, 591, 880, 1327, 19968, 40959] : List Int)) := ⟨_, rfl⟩
 replace H : ((ranges_made.f y151).bind fun t154 => (some t154)) = some r := by first | (rw [hy151]; with_reducible exact H) | (have H2_ := (Option.bind_some _ _).symm.trans H; rw [hy151]; with_reducible exact H2_) | (have H2_ := (Option.bind_some _ _).symm.trans H; with_reducible exact H2_) | with_reducible exact H | (rw [hy151]; exact H) | exact H
 have Ny151 := Aside0.mk hy151
 clear hy151
 replace H := Option.bind_eq_some_iff.mp H
 obtain ⟨t154, A10, H⟩ := H
 try dsimp only at H
 have A1 := Aside0.mk A10
 clear A10
 obtain rfl := Option.some.inj H
 go_enter Tryz.func85, Tryz.ntmps85
 go_wp2_with (first | ((with_reducible refine gate_dst (N := 1) rfl ?_); refine Kd.R_lit (Kd.int .i64) _ 3 ?hg (N := 1) ?hd (xs := ([65, 90, 97, 122, 192, 214, 216, 246, 248, 591, 880, 1327, 19968, 40959] : List Int)) (inner := [.int .i64 65, .int .i64 90, .int .i64 97, .int .i64 122, .int .i64 192, .int .i64 214, .int .i64 216, .int .i64 246, .int .i64 248, .int .i64 591, .int .i64 880, .int .i64 1327, .int .i64 19968, .int .i64 40959]) (ok := fun _ => True) (okp := fun _ => True) ?hr ?hp (fun _ hk => hk) trivial (Below.refl _ _) (Nat.le_refl _) (by simp) ?_; (case hd => rfl); (case hg => rfl); (case hr => exact zz29); (case hp => exact (Reps.one (show Kd.M (Kd.int .i64) _ _ _ 65 [.int .i64 65] from rfl) (Reps.one (show Kd.M (Kd.int .i64) _ _ _ 90 [.int .i64 90] from rfl) (Reps.one (show Kd.M (Kd.int .i64) _ _ _ 97 [.int .i64 97] from rfl) (Reps.one (show Kd.M (Kd.int .i64) _ _ _ 122 [.int .i64 122] from rfl) (Reps.one (show Kd.M (Kd.int .i64) _ _ _ 192 [.int .i64 192] from rfl) (Reps.one (show Kd.M (Kd.int .i64) _ _ _ 214 [.int .i64 214] from rfl) (Reps.one (show Kd.M (Kd.int .i64) _ _ _ 216 [.int .i64 216] from rfl) (Reps.one (show Kd.M (Kd.int .i64) _ _ _ 246 [.int .i64 246] from rfl) (Reps.one (show Kd.M (Kd.int .i64) _ _ _ 248 [.int .i64 248] from rfl) (Reps.one (show Kd.M (Kd.int .i64) _ _ _ 591 [.int .i64 591] from rfl) (Reps.one (show Kd.M (Kd.int .i64) _ _ _ 880 [.int .i64 880] from rfl) (Reps.one (show Kd.M (Kd.int .i64) _ _ _ 1327 [.int .i64 1327] from rfl) (Reps.one (show Kd.M (Kd.int .i64) _ _ _ 19968 [.int .i64 19968] from rfl) (Reps.one (show Kd.M (Kd.int .i64) _ _ _ 40959 [.int .i64 40959] from rfl) (Reps.none _ _)))))))))))))))); intro v152 w2 ho3 hb hg_ hnew_; clear hg_ hnew_; (first | rw [← Ny151.out] at ho3 | (simp only [Int.reduceToNat] at ho3; rw [← Ny151.out] at ho3)); have n_ := as2 (Kd.R_lower ho3 (below_size zz0)) (below_step zz0 hb); clear HB; obtain ⟨HO153, HB⟩ := n_; clear hb ho3; obtain ⟨Ao4, co4, eo4⟩ := Kd.R_slice HO153.out; subst eo4) | ((with_reducible refine gc 108 ?_); refine gL (some 2) Tryz.func108 #[.slice Ao4 y151.length co4] ?_; (with_reducible refine (ranges_made.calls _ _ y151 t154 _ ?side1 ?side2 A1.out).mono ?_); (case side1 => exact (by repeat (first | exact (Kd.R_reads' HO153.out).2.2 | (with_reducible refine Kd.C_alloc ?_ _) | (with_reducible refine Kd.C_drewN ?_ _) | (with_reducible refine Kd.C_drew ?_)))); (case side2 => exact (Kd.R_reads' HO153.out).2.1); rintro e w5 ⟨v155, rfl, ho0, hb⟩; refine ⟨_, rfl, ?_⟩; have n_ := as3 (Kd.R_below (by (with_reducible repeat (first | apply Kd.R_alloc | apply Kd.R_drewN | apply Kd.R_drew)); exact HO153.out) hb) (Kd.R_lower ho0 (below_size zz0)) (below_step zz0 hb); clear HO153 HB; obtain ⟨HO153, HO156, HB⟩ := n_; (try clear hb ho0)))
 go_ret
 exact ⟨_, zz4, by (with_reducible repeat (first | apply Kd.R_alloc | apply Kd.R_drewN | apply Kd.R_drew)); exact HO156.out, zz0⟩
def prep_straight_2.f (a0 : Int) : Option (Bool) := (ranges_Letters.f).bind fun t157 => ((ranges_In.f t157 a0).bind fun t160 => (some t160))
set_option maxHeartbeats 8000000 in
set_option maxRecDepth 100000 in
theorem prep_straight_2.calls (a0 : Int) (r : Bool) (w : World) (h : prep_straight_2.f a0 = some r) :
  Calls Tryz.prog 114 #[.int .i64 a0] w fun e w' => e = .returned (.bool r) ∧ Below w.heap.size w w' := by
 have HB := Aside0.mk (Below.refl w.heap.size w)
 have H : ((ranges_Letters.f).bind fun t157 => ((ranges_In.f t157 a0).bind fun t160 => (some t160))) = some r := h
 clear h
 replace H := Option.bind_eq_some_iff.mp H
 obtain ⟨t157, A20, H⟩ := H
 try dsimp only at H
 have A2 := Aside0.mk A20
 clear A20
 replace H := Option.bind_eq_some_iff.mp H
 obtain ⟨t160, A30, H⟩ := H
 try dsimp only at H
 have A3 := Aside0.mk A30
 clear A30
 obtain rfl := Option.some.inj H
 go_enter Tryz.func114, Tryz.ntmps114
 go_wp2_with (first | ((with_reducible refine gc 85 ?_); refine gL (some 3) Tryz.func85 #[] ?_; (with_reducible refine (ranges_Letters.calls  t157 _ A2.out).mono ?_); rintro e w4 ⟨v158, rfl, ho0, hb⟩; refine ⟨_, rfl, ?_⟩; have n_ := as2 (Kd.R_lower ho0 (below_size zz0)) (below_step zz0 hb); clear HB; obtain ⟨HO159, HB⟩ := n_; (try clear hb ho0); obtain ⟨Ao5, co5, eo5⟩ := Kd.R_slice HO159.out; subst eo5) | ((with_reducible refine gc 84 ?_); refine gL (some 5) Tryz.func84 #[.slice Ao5 t157.length co5, .int .i64 a0] ?_; (with_reducible refine (ranges_In.calls _ _ t157 a0 t160 _ ?side1 ?side2 A3.out).mono ?_); (case side1 => exact (by repeat (first | exact (Kd.R_reads' HO159.out).2.2 | (with_reducible refine Kd.C_alloc ?_ _) | (with_reducible refine Kd.C_drewN ?_ _) | (with_reducible refine Kd.C_drew ?_)))); (case side2 => exact (Kd.R_reads' HO159.out).2.1); rintro e w6 ⟨rfl, hb⟩; refine ⟨_, rfl, ?_⟩; have n_ := as2 (Kd.R_below (by (with_reducible repeat (first | apply Kd.R_alloc | apply Kd.R_drewN | apply Kd.R_drew)); exact HO159.out) hb) (below_step zz0 hb); clear HO159 HB; obtain ⟨HO159, HB⟩ := n_; (try clear hb)))
 go_ret
 exact ⟨zz4, zz0⟩
def leftB (c : Int) : Bool := (pairsL [1424, 1535, 1536, 1791, 64285, 64335]).any (inR c)
def letterB (c : Int) : Bool := (pairsL [65, 90, 97, 122, 192, 214, 216, 246, 248, 591, 880, 1327, 19968, 40959]).any (inR c)
theorem left_eq (c : Int) : prep_straight_1.f c = some (leftB c) := rfl
theorem letter_eq (c : Int) : prep_straight_2.f c = some (letterB c) := rfl
def straightB (l : List Int) : Bool := !(l.any leftB) || (leftB (l.getD 0 0) && leftB (l.getD (l.length - 1) 0) && !(l.any letterB))
def prep_straight.f (l0 : List Int) : Option Bool := if l0.length ≤ 140737488351232 then some (straightB l0) else none
theorem lf6 {P : Prop} (h : P := by
 go_enter Tryz.func94, Tryz.ntmps94
 go_wp2_with (first | (go_at_call 92; (with_reducible refine (HL.out _ H0.out).mono ?_); rintro e v0_ ⟨rfl, hb⟩; have HB := Aside0.mk hb; have hx := HX.out _ hb; clear hb HL) | (go_at_call 113; (with_reducible refine (prep_straight_1.calls x false _ (Hx.out)).mono ?_); rintro e v1_ ⟨rfl, hb⟩; have HB2 := Aside0.mk (below2 HB.out hb); clear HB; have HB := HB2; clear HB2; clear hb) | (go_at_call 113; (with_reducible refine (prep_straight_1.calls x true _ (Hx.out)).mono ?_); rintro e v1_ ⟨rfl, hb⟩; have HB2 := Aside0.mk (below2 HB.out hb); clear HB; have HB := HB2; clear HB2; have hy := HY.out _ HB.out; clear Hx; clear hb) | (go_at_call 113; (with_reducible refine (prep_straight_1.calls y false _ (Hy.out)).mono ?_); rintro e v2_ ⟨rfl, hb⟩; have HB2 := Aside0.mk (below2 HB.out hb); clear HB; have HB := HB2; clear HB2; clear hb) | (go_at_call 113; (with_reducible refine (prep_straight_1.calls y true _ (Hy.out)).mono ?_); rintro e v2_ ⟨rfl, hb⟩; have HB2 := Aside0.mk (below2 HB.out hb); clear HB; have HB := HB2; clear HB2; clear Hy; clear hb) | (go_at_call 92; (with_reducible refine (HT.out _ HB.out).mono ?_); rintro e v3_ ⟨rfl, hb⟩; have HB2 := Aside0.mk (below2 HB.out hb); clear hb))
 first
  | (go_ret; exact ⟨by rw [HS.out]; rfl, HB.out⟩)
  | (go_ret; exact ⟨by rw [HS.out]; rfl, HB2.out⟩)) : P := h
set_option maxHeartbeats 4000000 in
set_option maxRecDepth 100000 in
theorem prep_straight.calls (A0 : Option Addr) (c0 : Nat) (l0 : List Int) (r : Bool) (w : World) (hr0 : Kd.C (Kd.int .i64) w A0 l0.length l0) (hc0 : l0.length ≤ c0) (h : prep_straight.f l0 = some r) :
  Calls Tryz.prog 94 #[.slice A0 l0.length c0] w fun e w' => e = .returned (.bool r) ∧ Below w.heap.size w w' := by
 unfold prep_straight.f at h
 split at h
 ·rename_i hl
  obtain rfl := Option.some.inj h
  have hF1 : IsFn Tryz.prog 113 := ⟨⟨_, Tryz.func113, zz34, rfl⟩⟩
  have hF2 : IsFn Tryz.prog 114 := ⟨⟨_, Tryz.func114, zz34, rfl⟩⟩
  have HL := Aside0.mk (fun W (hb : Below w.heap.size w W) => slices_ContainsFunc_int_int.hof A0 c0 l0 113 #[] leftB W (Kd.C_below hr0 hb) hl hF1 (fun x W _ _ => prep_straight_1.calls x _ W (left_eq x)))
  have HT := Aside0.mk (fun W (hb : Below w.heap.size w W) => slices_ContainsFunc_int_int.hof A0 c0 l0 114 #[] letterB W (Kd.C_below hr0 hb) hl hF2 (fun x W _ _ => prep_straight_2.calls x _ W (letter_eq x)))
  have HR := Aside0.mk hr0
  have H0 := Aside0.mk (Below.refl w.heap.size w)
  clear hr0 h hF1 hF2
  cases ha : l0.any leftB with
  | false =>
   rw [ha] at HL
   have HA := Aside0.mk ha
   clear ha
   go_enter Tryz.func94, Tryz.ntmps94
   go_wp2_with (go_at_call 92; (with_reducible refine (HL.out _ H0.out).mono ?_); rintro e w1 ⟨rfl, hb⟩; have HB := Aside0.mk hb; clear hb HL)
   go_ret
   exact ⟨by unfold straightB; rw [HA.out]; rfl, HB.out⟩
  | true =>
   rw [ha] at HL
   have hne : 0 < l0.length := by
    rcases Nat.eq_zero_or_pos l0.length with h0 | h0
    ·rw [List.length_eq_zero_iff.1 h0] at ha; cases ha
    exact h0
   have hs : straightB l0 = (leftB (l0.getD 0 0) && leftB (l0.getD (l0.length - 1) 0) && !(l0.any letterB)) := by unfold straightB; rw [ha]; rfl
   have HS := Aside0.mk hs
   clear ha hs
   have h0z : (0 : Int) < (l0.length : Int) := by omega
   obtain ⟨ad, e1, hx⟩ := Kd.at_int HR.out 0 (by omega) (by omega)
   obtain ⟨ad', e2, hy⟩ := Kd.at_int HR.out ((l0.length : Int) - 1) (by omega) (by omega)
   cases e1
   cases e2
   obtain ⟨x, hx1⟩ : ∃ x, l0.getD 0 0 = x := ⟨_, rfl⟩
   obtain ⟨y, hy1⟩ : ∃ y, l0.getD (l0.length - 1) 0 = y := ⟨_, rfl⟩
   rw [show rd l0 0 = x from hx1, Int.toNat_zero, Addr.add_zero'] at hx
   rw [show rd l0 ((l0.length : Int) - 1) = y from by unfold rd; rw [show ((l0.length : Int) - 1).toNat = l0.length - 1 from by omega]; exact hy1, show ((l0.length : Int) - 1).toNat = l0.length - 1 from by omega] at hy
   rw [hx1, hy1] at HS
   have HX := Aside0.mk (show ∀ W, Below w.heap.size w W → W.cell? ad = some (.int .i64 x) from fun W hb => pw_cell_below hb hx)
   have HY := Aside0.mk (show ∀ W, Below w.heap.size w W → W.cell? (ad.add (l0.length - 1)) = some (.int .i64 y) from fun W hb => pw_cell_below hb hy)
   clear hx hy hx1 hy1
   cases hlx : leftB x with
   | false =>
    have Hx := Aside0.mk (show prep_straight_1.f x = some false by rw [left_eq, hlx])
    rw [hlx] at HS
    clear hlx
    exact lf6
   | true =>
    have Hx := Aside0.mk (show prep_straight_1.f x = some true by rw [left_eq, hlx])
    rw [hlx] at HS
    clear hlx
    cases hly : leftB y with
    | false =>
     have Hy := Aside0.mk (show prep_straight_1.f y = some false by rw [left_eq, hly])
     rw [hly] at HS
     clear hly
     exact lf6
    | true =>
     have Hy := Aside0.mk (show prep_straight_1.f y = some true by rw [left_eq, hly])
     rw [hly] at HS
     clear hly
     exact lf6
 cases h
end Go.Proofs.YtaekklpphlcngaaGreatDoor.Q
