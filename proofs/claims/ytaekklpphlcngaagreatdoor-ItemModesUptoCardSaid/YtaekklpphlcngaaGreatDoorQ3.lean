-- Written by hookprint.py (wip/) of this session: the kit's print with hand-proved functions beside it. Not trusted: Lean checks it.
import Derived.Test.YtaekklpphlcngaaGreatDoorQ0
import Derived.Test.YtaekklpphlcngaaGreatDoorQ2
namespace Go.Proofs.YtaekklpphlcngaaGreatDoor.Q
open List (setIfInBounds_toArray set_cons_zero set_cons_succ)
open Go.RowKit Go.Lib Go.Proofs.YtaekklpphlcngaaGreatDoorX Go.Proofs.YtaekklpphlcngaaGreatDoorW.PrintWords Go.Proofs.YtaekklpphlcngaaGreatDoorW.PrintLast Go.Proofs.YtaekklpphlcngaaGreatDoorW.PrintMore
set_option linter.unusedVariables false
set_option linter.unusedSimpArgs false
def ofP (Tn : Int → List Int) (g : Int → Bool) (s : ByteArray) : ByteArray × Int :=
 if validT s then
  (if (((runesI s).flatMap Tn).any fun x => !g x) then (⟨#[]⟩, 15) else if straightB ((runesI s).flatMap Tn) then (textOf ((runesI s).flatMap Tn), 0) else (⟨#[]⟩, 16))
 else (⟨#[]⟩, 3)
set_option maxHeartbeats 4000000 in
set_option maxRecDepth 100000 in
theorem prep_of.hof (s : ByteArray) (FT FM : Nat) (CM : Array Value) (Tn : Int → List Int) (g : Int → Bool) (w : World) (hs : s.size ≤ 1000000000) (hT : Tabs w) (hFT : IsFn Tryz.prog FT) (hFM : IsFn Tryz.prog FM)
  (hlen : ((runesI s).flatMap Tn).length ≤ 1000000000000)
  (ht : ∀ (x : Int) (W : World), Below w.heap.size w W → Calls Tryz.prog FT (#[.int .i64 x] ++ #[]) W fun e W' => ∃ v, e = .returned v ∧ Kd.R (Kd.int .i64) 3 W' W.heap.size (fun _ => True) v (Tn x) ∧ Below W.heap.size W W')
  (hg : ∀ (x : Int) (W : World), Below w.heap.size w W → Calls Tryz.prog FM (#[.int .i64 x] ++ CM) W fun e W' => e = .returned (.bool (g x)) ∧ Below W.heap.size W W') :
  Calls Tryz.prog 65 #[.string s, .agg #[.func (.func FT) #[] #[], .func (.func FM) #[] CM]] w fun e w' => e = .returned (.tuple #[.string (ofP Tn g s).1, .int .i64 (ofP Tn g s).2]) ∧ Below w.heap.size w w' := by
 have HS := Aside0.mk hs
 have hu := Tryz.underlying95
 have hF1 : IsFn Tryz.prog 93 := ⟨⟨_, Tryz.func93, zz34, rfl⟩⟩
 obtain ⟨w0, hw0⟩ : ∃ w0, w.alloc (.cells #[.func (.func FT) #[] #[], .func (.func FM) #[] CM] 95) = w0 := ⟨_, rfl⟩
 have B0 := Aside0.mk (show Below w.heap.size w w0 by rw [← hw0]; exact below_alloc (Below.refl _ _) _)
 have HC0 := Aside0.mk (show ∀ W, Below w0.heap.size w0 W → W.cell? ⟨w.heap.size, 0, none⟩ = some (.func (.func FT) #[] #[]) from fun W hb => by rw [← hw0] at hb; exact box_cells 0 rfl hb)
 have HC1 := Aside0.mk (show ∀ W, Below w0.heap.size w0 W → W.cell? ⟨w.heap.size, 1, none⟩ = some (.func (.func FM) #[] CM) from fun W hb => by rw [← hw0] at hb; exact box_cells 1 rfl hb)
 have HV := Aside0.mk (show Calls Tryz.prog 75 #[.string s] w0 fun e w' => e = .returned (.bool (validT s)) ∧ Below w0.heap.size w0 w' from utf_Valid.calls s (validT s) w0 (by unfold utf_Valid.f; rw [if_pos (by omega)]) (tabs_b hT B0.out))
 have HRu := Aside0.mk (show ∀ W, Below w.heap.size w W → validT s = true → _ from fun W hb hv => utf_Runes.calls s (runesI s) W (by unfold utf_Runes.f; rw [if_pos (by omega), if_pos hv]) (tabs_b hT hb))
 have HTn := Aside0.mk ht
 have HG := Aside0.mk hg
 have HLN := Aside0.mk hlen
 have HW0 := Aside0.mk hw0
 clear hs hT ht hg hlen hw0
 cases hv : validT s with
 | false =>
  have hres : ofP Tn g s = (⟨#[]⟩, 3) := by unfold ofP; rw [hv]; rfl
  have HRES := Aside0.mk hres
  rw [hv] at HV
  clear hres hv HRu
  go_enter Tryz.func65, Tryz.ntmps65
  go_wp2_with (go_at_call 75; rw [HW0.out]; (with_reducible refine HV.out.mono ?_); rintro e w1 ⟨rfl, hb⟩; have HB := Aside0.mk hb; clear hb HV)
  go_ret2
  exact ⟨by rw [HRES.out]; rfl, below2 B0.out HB.out⟩
 | true =>
  have HRu2 := Aside0.mk (fun W hb => HRu.out W hb hv)
  have HVT := Aside0.mk hv
  rw [hv] at HV
  clear hv HRu
  go_enter Tryz.func65, Tryz.ntmps65
  go_wp2_with (go_at_call 75; rw [HW0.out]; (with_reducible refine HV.out.mono ?_); rintro e w1 ⟨rfl, hb⟩; have HB := Aside0.mk hb; clear hb HV)
  have hc0 := HC0.out w1 HB.out
  obtain ⟨L, hL⟩ : ∃ L, (runesI s).flatMap Tn = L := ⟨_, rfl⟩
  have HLd := Aside0.mk hL
  rw [hL] at HLN
  clear hL
  refine start_ (n := 6) (S := fun w' => w'.cell? ⟨w.heap.size, 0, none⟩ = some (.func (.func FT) #[] #[])) (ds := [4]) #[false, false, false, false, false, false] zz34 rfl rfl (hc0) (fun hHeld => ?_)
  refine pure_ (i := 0) (N := some 13) (v := ?_) (a' := ?_) #[true, false, false, false, false, false] rfl rfl zz34 (fun _ _ _ h => h) (Or.inl ⟨by rfl, ?_⟩) ?_ ?_
  rotate_left
  ·intro w'
   go_simp
   with_reducible rfl
  rotate_left
  ·simp only [Act.put, setIfInBounds_toArray, set_cons_zero, set_cons_succ, i64_w, i32_w]
   rfl
  refine pure_ (i := 2) (N := some 15) (v := ?_) (a' := ?_) #[true, false, true, false, false, false] rfl rfl zz34 (fun _ _ _ h => h) (Or.inl ⟨by rfl, ?_⟩) ?_ ?_
  rotate_left
  ·intro w'
   go_simp
   with_reducible rfl
  rotate_left
  ·simp only [Act.put, setIfInBounds_toArray, set_cons_zero, set_cons_succ, i64_w, i32_w]
   rfl
  refine take_ (i := 3) (N := some 16) (v := ?_) (a' := ?_) #[true, false, true, true, false, false] rfl rfl zz34 (fun _ _ _ h => h) (Or.inl ⟨by rfl, ?_⟩) hHeld ?_ ?_
  rotate_left
  ·intro w' s0
   go_simp
   with_reducible rfl
  rotate_left
  ·simp only [Act.put, setIfInBounds_toArray, set_cons_zero, set_cons_succ, i64_w, i32_w]
   rfl
  refine one_ (i := 1) (N := some 14) #[true, true, true, true, false, false] rfl rfl zz34 (by decide) (fun K hK => ?_)
  refine goes_ Tryz.func54 zz34 rfl #[.string s] (by rfl) rfl rfl zz39 ?_
  with_reducible refine (HRu2.out _ (below2 B0.out zz0)).mono ?_
  rintro e w2 ⟨v2, rfl, ho2, hb2⟩
  refine ⟨_, rfl, ?_⟩
  obtain ⟨A2, c2, rfl, hl2, hC2⟩ := Kd.R_reads ho2
  have HB2 := Aside0.mk (below2 zz0 hb2)
  have HC2 := Aside0.mk hC2
  refine hK.out _ _ (pw_cell_below hb2 hHeld) (fun hHeld => ?_)
  clear hK K
  refine norm_ (a' := ?_) ?_ ?_
  rotate_left
  ·show Act.put _ (some 14) _ = _
   simp only [Act.put, setIfInBounds_toArray, set_cons_zero, set_cons_succ, i64_w, i32_w]
   rfl
  refine last_ (i := 4) (N := some 17) #[true, true, true, true, true, false] rfl rfl zz34 (by decide) (fun K hK => ?_)
  refine goes_ Tryz.func91 zz34 rfl #[.slice A2 (runesI s).length c2, .func (.func FT) #[] #[]] (by rfl) rfl rfl zz39 ?_
  refine (prep_mapped_int.hof A2 c2 (runesI s) FT #[] Tn _ (by repeat (first | exact HC2.out | apply Kd.C_alloc | apply Kd.C_drew)) (by have := runesI_len s; have := HS.out; omega) hFT (by rw [HLd.out]; have := HLN.out; omega) (fun x W _ hb => HTn.out x W (below2 B0.out (below2 (by repeat (first | (with_reducible first | exact HB2.out | apply below_alloc | apply pw_below_drewN | apply below_drew1) | exact HB2.out)) hb)))).mono ?_
  rintro e w3 ⟨v3, rfl, ho3, hb3⟩
  refine ⟨_, rfl, ?_⟩
  rw [HLd.out] at ho3
  obtain ⟨A3, c3, rfl, hl3, hC3⟩ := Kd.R_reads ho3
  have HB3 := Aside0.mk (below2 (by repeat (first | (with_reducible first | exact HB2.out | apply below_alloc | apply pw_below_drewN | apply below_drew1) | exact HB2.out)) hb3)
  have HC3 := Aside0.mk hC3
  have HL3 := Aside0.mk hl3
  clear hl3
  refine hK.out _ _ ?_
  clear hK K
  refine norm_ (a' := ?_) ?_ ?_
  rotate_left
  ·show Act.put _ (some 17) _ = _
   simp only [Act.put, setIfInBounds_toArray, set_cons_zero, set_cons_succ, i64_w, i32_w]
   rfl
  refine pure_ (i := 5) (N := some 6) (v := ?_) (a' := ?_) #[true, true, true, true, true, true] rfl rfl zz34 (fun _ _ _ h => h) (Or.inl ⟨by rfl, ?_⟩) ?_ ?_
  rotate_left
  ·intro w'
   go_simp
   with_reducible rfl
  rotate_left
  ·simp only [Act.put, setIfInBounds_toArray, set_cons_zero, set_cons_succ, i64_w, i32_w]
   rfl
  refine done_ zz34 ?_
  clear hHeld ho2 hb2 hC2 ho3 hb3 HTn HRu2 HC2 HB2 hc0 hl2
  have HAny := Aside0.mk (slices_ContainsFunc_int_int.hof A3 c3 L 93 #[.pointer (some ⟨w.heap.size, 0, none⟩)] (fun x => !g x) w3 HC3.out (by have := HLN.out; omega) hF1 (fun x W _ hb => prep_of_1.hof x _ FM CM g W hFM (HC1.out W (below2 HB3.out hb)) (HG.out x W (below2 B0.out (below2 HB3.out hb)))))
  have HStr := Aside0.mk (fun W (hb : Below w3.heap.size w3 W) => prep_straight.calls A3 c3 L (straightB L) W (Kd.C_below HC3.out hb) HL3.out (by unfold prep_straight.f; rw [if_pos (by have := HLN.out; omega)]))
  cases hany : (L.any fun x => !g x) with
  | true =>
   have hres : ofP Tn g s = (⟨#[]⟩, 15) := by unfold ofP; rw [HVT.out, HLd.out, hany]; rfl
   have HRES := Aside0.mk hres
   rw [hany] at HAny
   clear hany hres
   go_wp2_with (go_at_call 92; (with_reducible refine (HAny.out).mono ?_); rintro e w4 ⟨rfl, hb4⟩; have HB4 := Aside0.mk (below2 HB3.out hb4); have H34 := Aside0.mk hb4; have H34b := H34; clear hb4)
   go_ret2
   exact ⟨by rw [HRES.out]; rfl, below2 B0.out HB4.out⟩
  | false =>
   rw [hany] at HAny
   cases hst : straightB L with
   | false =>
    have hres : ofP Tn g s = (⟨#[]⟩, 16) := by unfold ofP; rw [HVT.out, HLd.out, hany, hst]; rfl
    have HRES := Aside0.mk hres
    rw [hst] at HStr
    clear hany hst hres
    go_wp2_with (first | (go_at_call 92; (with_reducible refine (HAny.out).mono ?_); rintro e w4 ⟨rfl, hb4⟩; have HB4 := Aside0.mk (below2 HB3.out hb4); have H34 := Aside0.mk hb4; have H34b := H34; clear hb4) | (go_at_call 94; (with_reducible refine (HStr.out _ H34.out).mono ?_); rintro e w5 ⟨rfl, hb5⟩; have HB5 := Aside0.mk (below2 HB4.out hb5); have H45 := Aside0.mk hb5; clear hb5))
    go_ret2
    exact ⟨by rw [HRES.out]; rfl, below2 B0.out HB5.out⟩
   | true =>
    have hres : ofP Tn g s = (textOf L, 0) := by unfold ofP; rw [HVT.out, HLd.out, hany, hst]; rfl
    have HRES := Aside0.mk hres
    rw [hst] at HStr
    clear hany hst hres
    go_wp2_with (first | (go_at_call 92; (with_reducible refine (HAny.out).mono ?_); rintro e w4 ⟨rfl, hb4⟩; have HB4 := Aside0.mk (below2 HB3.out hb4); have H34 := Aside0.mk hb4; have H34b := H34; clear hb4) | (go_at_call 94; (with_reducible refine (HStr.out _ H34.out).mono ?_); rintro e w5 ⟨rfl, hb5⟩; have HB5 := Aside0.mk (below2 HB4.out hb5); have H45 := Aside0.mk hb5; clear hb5))
    clear HG HC1 HC0 HVT H34 HB HB3 HB4
    have HC5 := Aside0.mk (Kd.C_below HC3.out (below2 H34b.out H45.out))
    go_loopg [7, 28] (L.length + 1) (fun gk v7 v28 wr => ∃ i : Nat, i ≤ L.length ∧ v28 = .int .i64 i ∧ v7 = .string (textOf (L.take i)) ∧ L.length < gk + i ∧ Aside0 (Below w5.heap.size w5 wr))
    case atStart => exact ⟨0, Nat.zero_le _, rfl, rfl, by omega, ⟨Below.refl _ _⟩⟩
    case round =>
     obtain ⟨i, hi, rfl, rfl, hk, HB⟩ := hrel
     by_cases hlt : i < L.length
     ·obtain ⟨k', rfl⟩ : ∃ k', gk = k' + 1 := ⟨gk - 1, by omega⟩
      have hltz : (i : Int) < (L.length : Int) := by omega
      obtain ⟨ad, e1, hx⟩ := Kd.at_int (Kd.C_below HC5.out HB.out) (i : Int) (by omega) (by omega)
      cases e1
      rw [Int.toNat_natCast, rd_get L i hlt] at hx
      obtain ⟨x, hxx⟩ : ∃ x, L[i] = x := ⟨_, rfl⟩
      rw [hxx] at hx
      have hst : textOf (L.take (i + 1)) = textOf (L.take i) ++ Utf8.encode (wrap32 x) := by rw [List.take_succ_eq_append_getElem hlt, hxx, textOf_snoc]
      have HST := Aside0.mk hst
      have hsz : (textOf (L.take i)).size + (Utf8.encode (wrap32 x)).size ≤ 9223372036854775807 := by
       have h1 := textOf_size (L.take i)
       have h2 := encode_size (wrap32 x)
       have h3 := HLN.out
       rw [List.length_take] at h1
       omega
      obtain ⟨acc, hacc⟩ : ∃ acc, textOf (L.take i) = acc := ⟨_, rfl⟩
      have HA := Aside0.mk hacc
      rw [hacc] at hsz
      rw [hacc]
      have hll := HLN.out
      clear hst hxx hacc
      go_wp2
      go_roundg k'
      case measure => omega
      case rel => exact ⟨i + 1, by omega, by go_num, by rw [HST.out, HA.out], by omega, HB⟩
     have : i = L.length := by omega
     subst this
     go_wp2
     go_ret2
     exact ⟨by rw [HRES.out, List.take_length]; rfl, below2 B0.out (below2 HB5.out HB.out)⟩
def ranges_Banned.f  : Option ((List (S119))) := (ranges_made.f (([0, 31, 127, 160, 5760, 5760, 8192, 8202, 8232, 8239, 8287, 8287, 12288, 12288, 57344, 63743, 65533, 65535, 917504, 917631, 983040, 1114111] : List Int))).bind fun t164 => (some t164)
set_option maxHeartbeats 8000000 in
set_option maxRecDepth 100000 in
theorem ranges_Banned.calls  (r : List (S119)) (w : World) (h : ranges_Banned.f  = some r) :
  Calls Tryz.prog 95 #[] w fun e w' => ∃ v0_ : Value, e = .returned (v0_) ∧ Kd.R k119 119 w' w.heap.size (fun _ => True) v0_ r ∧ Below w.heap.size w w' := by
 have HB := Aside0.mk (Below.refl w.heap.size w)
 have H : ((ranges_made.f (([0, 31, 127, 160, 5760, 5760, 8192, 8202, 8232, 8239, 8287, 8287, 12288, 12288, 57344, 63743, 65533, 65535, 917504, 917631, 983040, 1114111] : List Int))).bind fun t164 => (some t164)) = some r := h
 clear h
 obtain ⟨y161, hy161⟩ : ∃ y_ : List Int, y_ = (([0, 31, 127, 160, 5760, 5760, 8192, 8202, 8232, 8239, 8287, 8287, 12288, 12288, 57344, 63743, 65533, 65535, 917504, 917631, 983040, 1114111] : List Int)) := ⟨_, rfl⟩
 replace H : ((ranges_made.f y161).bind fun t164 => (some t164)) = some r := by first | (rw [hy161]; with_reducible exact H) | (have H2_ := (Option.bind_some _ _).symm.trans H; rw [hy161]; with_reducible exact H2_) | (have H2_ := (Option.bind_some _ _).symm.trans H; with_reducible exact H2_) | with_reducible exact H | (rw [hy161]; exact H) | exact H
 have Ny161 := Aside0.mk hy161
 clear hy161
 replace H := Option.bind_eq_some_iff.mp H
 obtain ⟨t164, A10, H⟩ := H
 try dsimp only at H
 have A1 := Aside0.mk A10
 clear A10
 obtain rfl := Option.some.inj H
 go_enter Tryz.func95, Tryz.ntmps95
 go_wp2_with (first | ((with_reducible refine gate_dst (N := 1) rfl ?_); refine Kd.R_lit (Kd.int .i64) _ 3 ?hg (N := 1) ?hd (xs := ([0, 31, 127, 160, 5760, 5760, 8192, 8202, 8232, 8239, 8287, 8287, 12288, 12288, 57344, 63743, 65533, 65535, 917504, 917631, 983040, 1114111] : List Int)) (inner := [.int .i64 0, .int .i64 31, .int .i64 127, .int .i64 160, .int .i64 5760, .int .i64 5760, .int .i64 8192, .int .i64 8202, .int .i64 8232, .int .i64 8239, .int .i64 8287, .int .i64 8287, .int .i64 12288, .int .i64 12288, .int .i64 57344, .int .i64 63743, .int .i64 65533, .int .i64 65535, .int .i64 917504, .int .i64 917631, .int .i64 983040, .int .i64 1114111]) (ok := fun _ => True) (okp := fun _ => True) ?hr ?hp (fun _ hk => hk) trivial (Below.refl _ _) (Nat.le_refl _) (by simp) ?_; (case hd => rfl); (case hg => rfl); (case hr => exact zz29); (case hp => exact (Reps.one (show Kd.M (Kd.int .i64) _ _ _ 0 [.int .i64 0] from rfl) (Reps.one (show Kd.M (Kd.int .i64) _ _ _ 31 [.int .i64 31] from rfl) (Reps.one (show Kd.M (Kd.int .i64) _ _ _ 127 [.int .i64 127] from rfl) (Reps.one (show Kd.M (Kd.int .i64) _ _ _ 160 [.int .i64 160] from rfl) (Reps.one (show Kd.M (Kd.int .i64) _ _ _ 5760 [.int .i64 5760] from rfl) (Reps.one (show Kd.M (Kd.int .i64) _ _ _ 5760 [.int .i64 5760] from rfl) (Reps.one (show Kd.M (Kd.int .i64) _ _ _ 8192 [.int .i64 8192] from rfl) (Reps.one (show Kd.M (Kd.int .i64) _ _ _ 8202 [.int .i64 8202] from rfl) (Reps.one (show Kd.M (Kd.int .i64) _ _ _ 8232 [.int .i64 8232] from rfl) (Reps.one (show Kd.M (Kd.int .i64) _ _ _ 8239 [.int .i64 8239] from rfl) (Reps.one (show Kd.M (Kd.int .i64) _ _ _ 8287 [.int .i64 8287] from rfl) (Reps.one (show Kd.M (Kd.int .i64) _ _ _ 8287 [.int .i64 8287] from rfl) (Reps.one (show Kd.M (Kd.int .i64) _ _ _ 12288 [.int .i64 12288] from rfl) (Reps.one (show Kd.M (Kd.int .i64) _ _ _ 12288 [.int .i64 12288] from rfl) (Reps.one (show Kd.M (Kd.int .i64) _ _ _ 57344 [.int .i64 57344] from rfl) (Reps.one (show Kd.M (Kd.int .i64) _ _ _ 63743 [.int .i64 63743] from rfl) (Reps.one (show Kd.M (Kd.int .i64) _ _ _ 65533 [.int .i64 65533] from rfl) (Reps.one (show Kd.M (Kd.int .i64) _ _ _ 65535 [.int .i64 65535] from rfl) (Reps.one (show Kd.M (Kd.int .i64) _ _ _ 917504 [.int .i64 917504] from rfl) (Reps.one (show Kd.M (Kd.int .i64) _ _ _ 917631 [.int .i64 917631] from rfl) (Reps.one (show Kd.M (Kd.int .i64) _ _ _ 983040 [.int .i64 983040] from rfl) (Reps.one (show Kd.M (Kd.int .i64) _ _ _ 1114111 [.int .i64 1114111] from rfl) (Reps.none _ _)))))))))))))))))))))))); intro v162 w2 ho3 hb hg_ hnew_; clear hg_ hnew_; (first | rw [← Ny161.out] at ho3 | (simp only [Int.reduceToNat] at ho3; rw [← Ny161.out] at ho3)); have n_ := as2 (Kd.R_lower ho3 (below_size zz0)) (below_step zz0 hb); clear HB; obtain ⟨HO163, HB⟩ := n_; clear hb ho3; obtain ⟨Ao4, co4, eo4⟩ := Kd.R_slice HO163.out; subst eo4) | ((with_reducible refine gc 108 ?_); refine gL (some 2) Tryz.func108 #[.slice Ao4 y161.length co4] ?_; (with_reducible refine (ranges_made.calls _ _ y161 t164 _ ?side1 ?side2 A1.out).mono ?_); (case side1 => exact (by repeat (first | exact (Kd.R_reads' HO163.out).2.2 | (with_reducible refine Kd.C_alloc ?_ _) | (with_reducible refine Kd.C_drewN ?_ _) | (with_reducible refine Kd.C_drew ?_)))); (case side2 => exact (Kd.R_reads' HO163.out).2.1); rintro e w5 ⟨v165, rfl, ho0, hb⟩; refine ⟨_, rfl, ?_⟩; have n_ := as3 (Kd.R_below (by (with_reducible repeat (first | apply Kd.R_alloc | apply Kd.R_drewN | apply Kd.R_drew)); exact HO163.out) hb) (Kd.R_lower ho0 (below_size zz0)) (below_step zz0 hb); clear HO163 HB; obtain ⟨HO163, HO166, HB⟩ := n_; (try clear hb ho0)))
 go_ret
 exact ⟨_, zz4, by (with_reducible repeat (first | apply Kd.R_alloc | apply Kd.R_drewN | apply Kd.R_drew)); exact HO166.out, zz0⟩
def prep_banned.f (a0 : Int) : Option (Bool) := (ranges_Banned.f).bind fun t167 => ((ranges_In.f t167 a0).bind fun t170 => (some t170))
set_option maxHeartbeats 8000000 in
set_option maxRecDepth 100000 in
theorem prep_banned.calls (a0 : Int) (r : Bool) (w : World) (h : prep_banned.f a0 = some r) :
  Calls Tryz.prog 68 #[.int .i64 a0] w fun e w' => e = .returned (.bool r) ∧ Below w.heap.size w w' := by
 have HB := Aside0.mk (Below.refl w.heap.size w)
 have H : ((ranges_Banned.f).bind fun t167 => ((ranges_In.f t167 a0).bind fun t170 => (some t170))) = some r := h
 clear h
 replace H := Option.bind_eq_some_iff.mp H
 obtain ⟨t167, A20, H⟩ := H
 try dsimp only at H
 have A2 := Aside0.mk A20
 clear A20
 replace H := Option.bind_eq_some_iff.mp H
 obtain ⟨t170, A30, H⟩ := H
 try dsimp only at H
 have A3 := Aside0.mk A30
 clear A30
 obtain rfl := Option.some.inj H
 go_enter Tryz.func68, Tryz.ntmps68
 go_wp2_with (first | ((with_reducible refine gc 95 ?_); refine gL (some 3) Tryz.func95 #[] ?_; (with_reducible refine (ranges_Banned.calls  t167 _ A2.out).mono ?_); rintro e w4 ⟨v168, rfl, ho0, hb⟩; refine ⟨_, rfl, ?_⟩; have n_ := as2 (Kd.R_lower ho0 (below_size zz0)) (below_step zz0 hb); clear HB; obtain ⟨HO169, HB⟩ := n_; (try clear hb ho0); obtain ⟨Ao5, co5, eo5⟩ := Kd.R_slice HO169.out; subst eo5) | ((with_reducible refine gc 84 ?_); refine gL (some 5) Tryz.func84 #[.slice Ao5 t167.length co5, .int .i64 a0] ?_; (with_reducible refine (ranges_In.calls _ _ t167 a0 t170 _ ?side1 ?side2 A3.out).mono ?_); (case side1 => exact (by repeat (first | exact (Kd.R_reads' HO169.out).2.2 | (with_reducible refine Kd.C_alloc ?_ _) | (with_reducible refine Kd.C_drewN ?_ _) | (with_reducible refine Kd.C_drew ?_)))); (case side2 => exact (Kd.R_reads' HO169.out).2.1); rintro e w6 ⟨rfl, hb⟩; refine ⟨_, rfl, ?_⟩; have n_ := as2 (Kd.R_below (by (with_reducible repeat (first | apply Kd.R_alloc | apply Kd.R_drewN | apply Kd.R_drew)); exact HO169.out) hb) (below_step zz0 hb); clear HO169 HB; obtain ⟨HO169, HB⟩ := n_; (try clear hb)))
 go_ret
 exact ⟨zz4, zz0⟩
def ranges_Gone.f  : Option ((List (S119))) := (ranges_made.f (([173, 173, 847, 847, 6150, 6150, 8203, 8205, 8288, 8288, 65024, 65039, 65279, 65279] : List Int))).bind fun t174 => (some t174)
set_option maxHeartbeats 8000000 in
set_option maxRecDepth 100000 in
theorem ranges_Gone.calls  (r : List (S119)) (w : World) (h : ranges_Gone.f  = some r) :
  Calls Tryz.prog 97 #[] w fun e w' => ∃ v0_ : Value, e = .returned (v0_) ∧ Kd.R k119 119 w' w.heap.size (fun _ => True) v0_ r ∧ Below w.heap.size w w' := by
 have HB := Aside0.mk (Below.refl w.heap.size w)
 have H : ((ranges_made.f (([173, 173, 847, 847, 6150, 6150, 8203, 8205, 8288, 8288, 65024, 65039, 65279, 65279] : List Int))).bind fun t174 => (some t174)) = some r := h
 clear h
 obtain ⟨y171, hy171⟩ : ∃ y_ : List Int, y_ = (([173, 173, 847, 847, 6150, 6150, 8203, 8205, 8288, 8288, 65024, 65039, 65279, 65279] : List Int)) := ⟨_, rfl⟩
 replace H : ((ranges_made.f y171).bind fun t174 => (some t174)) = some r := by first | (rw [hy171]; with_reducible exact H) | (have H2_ := (Option.bind_some _ _).symm.trans H; rw [hy171]; with_reducible exact H2_) | (have H2_ := (Option.bind_some _ _).symm.trans H; with_reducible exact H2_) | with_reducible exact H | (rw [hy171]; exact H) | exact H
 have Ny171 := Aside0.mk hy171
 clear hy171
 replace H := Option.bind_eq_some_iff.mp H
 obtain ⟨t174, A10, H⟩ := H
 try dsimp only at H
 have A1 := Aside0.mk A10
 clear A10
 obtain rfl := Option.some.inj H
 go_enter Tryz.func97, Tryz.ntmps97
 go_wp2_with (first | ((with_reducible refine gate_dst (N := 1) rfl ?_); refine Kd.R_lit (Kd.int .i64) _ 3 ?hg (N := 1) ?hd (xs := ([173, 173, 847, 847, 6150, 6150, 8203, 8205, 8288, 8288, 65024, 65039, 65279, 65279] : List Int)) (inner := [.int .i64 173, .int .i64 173, .int .i64 847, .int .i64 847, .int .i64 6150, .int .i64 6150, .int .i64 8203, .int .i64 8205, .int .i64 8288, .int .i64 8288, .int .i64 65024, .int .i64 65039, .int .i64 65279, .int .i64 65279]) (ok := fun _ => True) (okp := fun _ => True) ?hr ?hp (fun _ hk => hk) trivial (Below.refl _ _) (Nat.le_refl _) (by simp) ?_; (case hd => rfl); (case hg => rfl); (case hr => exact zz29); (case hp => exact (Reps.one (show Kd.M (Kd.int .i64) _ _ _ 173 [.int .i64 173] from rfl) (Reps.one (show Kd.M (Kd.int .i64) _ _ _ 173 [.int .i64 173] from rfl) (Reps.one (show Kd.M (Kd.int .i64) _ _ _ 847 [.int .i64 847] from rfl) (Reps.one (show Kd.M (Kd.int .i64) _ _ _ 847 [.int .i64 847] from rfl) (Reps.one (show Kd.M (Kd.int .i64) _ _ _ 6150 [.int .i64 6150] from rfl) (Reps.one (show Kd.M (Kd.int .i64) _ _ _ 6150 [.int .i64 6150] from rfl) (Reps.one (show Kd.M (Kd.int .i64) _ _ _ 8203 [.int .i64 8203] from rfl) (Reps.one (show Kd.M (Kd.int .i64) _ _ _ 8205 [.int .i64 8205] from rfl) (Reps.one (show Kd.M (Kd.int .i64) _ _ _ 8288 [.int .i64 8288] from rfl) (Reps.one (show Kd.M (Kd.int .i64) _ _ _ 8288 [.int .i64 8288] from rfl) (Reps.one (show Kd.M (Kd.int .i64) _ _ _ 65024 [.int .i64 65024] from rfl) (Reps.one (show Kd.M (Kd.int .i64) _ _ _ 65039 [.int .i64 65039] from rfl) (Reps.one (show Kd.M (Kd.int .i64) _ _ _ 65279 [.int .i64 65279] from rfl) (Reps.one (show Kd.M (Kd.int .i64) _ _ _ 65279 [.int .i64 65279] from rfl) (Reps.none _ _)))))))))))))))); intro v172 w2 ho3 hb hg_ hnew_; clear hg_ hnew_; (first | rw [← Ny171.out] at ho3 | (simp only [Int.reduceToNat] at ho3; rw [← Ny171.out] at ho3)); have n_ := as2 (Kd.R_lower ho3 (below_size zz0)) (below_step zz0 hb); clear HB; obtain ⟨HO173, HB⟩ := n_; clear hb ho3; obtain ⟨Ao4, co4, eo4⟩ := Kd.R_slice HO173.out; subst eo4) | ((with_reducible refine gc 108 ?_); refine gL (some 2) Tryz.func108 #[.slice Ao4 y171.length co4] ?_; (with_reducible refine (ranges_made.calls _ _ y171 t174 _ ?side1 ?side2 A1.out).mono ?_); (case side1 => exact (by repeat (first | exact (Kd.R_reads' HO173.out).2.2 | (with_reducible refine Kd.C_alloc ?_ _) | (with_reducible refine Kd.C_drewN ?_ _) | (with_reducible refine Kd.C_drew ?_)))); (case side2 => exact (Kd.R_reads' HO173.out).2.1); rintro e w5 ⟨v175, rfl, ho0, hb⟩; refine ⟨_, rfl, ?_⟩; have n_ := as3 (Kd.R_below (by (with_reducible repeat (first | apply Kd.R_alloc | apply Kd.R_drewN | apply Kd.R_drew)); exact HO173.out) hb) (Kd.R_lower ho0 (below_size zz0)) (below_step zz0 hb); clear HO173 HB; obtain ⟨HO173, HO176, HB⟩ := n_; (try clear hb ho0)))
 go_ret
 exact ⟨_, zz4, by (with_reducible repeat (first | apply Kd.R_alloc | apply Kd.R_drewN | apply Kd.R_drew)); exact HO176.out, zz0⟩
def prep_kept.f (a0 : Int) : Option (List Int) := (ranges_Gone.f).bind fun t177 => ((ranges_In.f t177 a0).bind fun t180 => (if t180 = true then (some ([] : List Int)) else (some (([a0] : List Int)))))
set_option maxHeartbeats 8000000 in
set_option maxRecDepth 100000 in
theorem prep_kept.calls (a0 : Int) (r : List Int) (w : World) (h : prep_kept.f a0 = some r) :
  Calls Tryz.prog 70 #[.int .i64 a0] w fun e w' => ∃ v0_ : Value, e = .returned (v0_) ∧ Kd.R (Kd.int .i64) 3 w' w.heap.size (fun _ => True) v0_ r ∧ Below w.heap.size w w' := by
 have HB := Aside0.mk (Below.refl w.heap.size w)
 have H : ((ranges_Gone.f).bind fun t177 => ((ranges_In.f t177 a0).bind fun t180 => (if t180 = true then (some ([] : List Int)) else (some (([a0] : List Int)))))) = some r := h
 clear h
 replace H := Option.bind_eq_some_iff.mp H
 obtain ⟨t177, A20, H⟩ := H
 try dsimp only at H
 have A2 := Aside0.mk A20
 clear A20
 replace H := Option.bind_eq_some_iff.mp H
 obtain ⟨t180, A30, H⟩ := H
 try dsimp only at H
 have A3 := Aside0.mk A30
 clear A30
 by_cases c4 : t180 = true
 ·subst c4
  have H1 : (some ([] : List Int)) = some r := by rw [if_pos rfl] at H; exact H
  clear H
  have H := H1
  clear H1
  obtain rfl := Option.some.inj H
  go_enter Tryz.func70, Tryz.ntmps70
  go_wp2_with (first | ((with_reducible refine gc 97 ?_); refine gL (some 3) Tryz.func97 #[] ?_; (with_reducible refine (ranges_Gone.calls  t177 _ A2.out).mono ?_); rintro e w5 ⟨v178, rfl, ho0, hb⟩; refine ⟨_, rfl, ?_⟩; have n_ := as2 (Kd.R_lower ho0 (below_size zz0)) (below_step zz0 hb); clear HB; obtain ⟨HO179, HB⟩ := n_; (try clear hb ho0); obtain ⟨Ao6, co6, eo6⟩ := Kd.R_slice HO179.out; subst eo6) | ((with_reducible refine gc 84 ?_); refine gL (some 5) Tryz.func84 #[.slice Ao6 t177.length co6, .int .i64 a0] ?_; (with_reducible refine (ranges_In.calls _ _ t177 a0 true _ ?side1 ?side2 A3.out).mono ?_); (case side1 => exact (by repeat (first | exact (Kd.R_reads' HO179.out).2.2 | (with_reducible refine Kd.C_alloc ?_ _) | (with_reducible refine Kd.C_drewN ?_ _) | (with_reducible refine Kd.C_drew ?_)))); (case side2 => exact (Kd.R_reads' HO179.out).2.1); rintro e w7 ⟨rfl, hb⟩; refine ⟨_, rfl, ?_⟩; have n_ := as2 (Kd.R_below (by (with_reducible repeat (first | apply Kd.R_alloc | apply Kd.R_drewN | apply Kd.R_drew)); exact HO179.out) hb) (below_step zz0 hb); clear HO179 HB; obtain ⟨HO179, HB⟩ := n_; (try clear hb)))
  go_ret
  exact ⟨_, zz4, zz46, zz0⟩
 replace c4 := Bool.eq_false_iff.mpr c4
 subst c4
 have H1 : (some (([a0] : List Int))) = some r := by rw [if_neg (show ¬ (false = true) by decide)] at H; exact H
 clear H
 have H := H1
 clear H1
 obtain ⟨y181, hy181⟩ : ∃ y_ : List Int, y_ = (([a0] : List Int)) := ⟨_, rfl⟩
 replace H : (some y181) = some r := by first | (rw [hy181]; with_reducible exact H) | (have H2_ := (Option.bind_some _ _).symm.trans H; rw [hy181]; with_reducible exact H2_) | (have H2_ := (Option.bind_some _ _).symm.trans H; with_reducible exact H2_) | with_reducible exact H | (rw [hy181]; exact H) | exact H
 have Ny181 := Aside0.mk hy181
 clear hy181
 obtain rfl := Option.some.inj H
 go_enter Tryz.func70, Tryz.ntmps70
 go_wp2_with (first | ((with_reducible refine gc 97 ?_); refine gL (some 3) Tryz.func97 #[] ?_; (with_reducible refine (ranges_Gone.calls  t177 _ A2.out).mono ?_); rintro e w8 ⟨v178, rfl, ho0, hb⟩; refine ⟨_, rfl, ?_⟩; have n_ := as2 (Kd.R_lower ho0 (below_size zz0)) (below_step zz0 hb); clear HB; obtain ⟨HO179, HB⟩ := n_; (try clear hb ho0); obtain ⟨Ao9, co9, eo9⟩ := Kd.R_slice HO179.out; subst eo9) | ((with_reducible refine gc 84 ?_); refine gL (some 5) Tryz.func84 #[.slice Ao9 t177.length co9, .int .i64 a0] ?_; (with_reducible refine (ranges_In.calls _ _ t177 a0 false _ ?side1 ?side2 A3.out).mono ?_); (case side1 => exact (by repeat (first | exact (Kd.R_reads' HO179.out).2.2 | (with_reducible refine Kd.C_alloc ?_ _) | (with_reducible refine Kd.C_drewN ?_ _) | (with_reducible refine Kd.C_drew ?_)))); (case side2 => exact (Kd.R_reads' HO179.out).2.1); rintro e w10 ⟨rfl, hb⟩; refine ⟨_, rfl, ?_⟩; have n_ := as2 (Kd.R_below (by (with_reducible repeat (first | apply Kd.R_alloc | apply Kd.R_drewN | apply Kd.R_drew)); exact HO179.out) hb) (below_step zz0 hb); clear HO179 HB; obtain ⟨HO179, HB⟩ := n_; (try clear hb)) | ((with_reducible refine gate_dst (N := 7) rfl ?_); refine Kd.R_lit (Kd.int .i64) _ 3 ?hg (N := 7) ?hd (xs := ([a0] : List Int)) (inner := [.int .i64 a0]) (ok := fun _ => True) (okp := fun _ => True) ?hr ?hp (fun _ hk => hk) trivial (Below.refl _ _) (Nat.le_refl _) (by simp) ?_; (case hd => rfl); (case hg => rfl); (case hr => exact zz29); (case hp => exact (Reps.one (show Kd.M (Kd.int .i64) _ _ _ a0 [.int .i64 a0] from rfl) (Reps.none _ _))); intro v182 w11 ho12 hb hg_ hnew_; clear hg_ hnew_; (first | rw [← Ny181.out] at ho12 | (simp only [Int.reduceToNat] at ho12; rw [← Ny181.out] at ho12)); have n_ := as3 (Kd.R_below (by (with_reducible repeat (first | apply Kd.R_alloc | apply Kd.R_drewN | apply Kd.R_drew)); exact HO179.out) hb) (Kd.R_lower ho12 (below_size zz0)) (below_step zz0 hb); clear HO179 HB; obtain ⟨HO179, HO183, HB⟩ := n_; clear hb ho12))
 go_ret
 exact ⟨_, zz4, by (with_reducible repeat (first | apply Kd.R_alloc | apply Kd.R_drewN | apply Kd.R_drew)); exact HO183.out, zz0⟩
def prep_Resource_1.f (a0 : Int) : Option (Bool) := (prep_banned.f a0).bind fun t184 => (some (!t184))
set_option maxHeartbeats 8000000 in
set_option maxRecDepth 100000 in
theorem prep_Resource_1.calls (a0 : Int) (r : Bool) (w : World) (h : prep_Resource_1.f a0 = some r) :
  Calls Tryz.prog 71 #[.int .i64 a0] w fun e w' => e = .returned (.bool r) ∧ Below w.heap.size w w' := by
 have HB := Aside0.mk (Below.refl w.heap.size w)
 have H : ((prep_banned.f a0).bind fun t184 => (some (!t184))) = some r := h
 clear h
 replace H := Option.bind_eq_some_iff.mp H
 obtain ⟨t184, A20, H⟩ := H
 try dsimp only at H
 have A2 := Aside0.mk A20
 clear A20
 obtain rfl := Option.some.inj H
 go_enter Tryz.func71, Tryz.ntmps71
 go_wp2_with (first | ((with_reducible refine gc 68 ?_); refine gL (some 4) Tryz.func68 #[.int .i64 a0] ?_; (with_reducible refine (prep_banned.calls a0 t184 _ A2.out).mono ?_); rintro e w3 ⟨rfl, hb⟩; refine ⟨_, rfl, ?_⟩; replace HB := Aside0.mk (below_step zz0 hb); (try clear hb)))
 go_ret
 exact ⟨zz4, zz0⟩
theorem flat_len {α β : Type} (T : α → List β) (hT : ∀ x, (T x).length ≤ 2) : ∀ l : List α, (l.flatMap T).length ≤ 2 * l.length
 | [] => by simp
 | x :: l => by have := flat_len T hT l; have := hT x; simp only [List.flatMap_cons, List.length_append, List.length_cons]; omega
def goneB (c : Int) : Bool := (pairsL [173, 173, 847, 847, 6150, 6150, 8203, 8205, 8288, 8288, 65024, 65039, 65279, 65279]).any (inR c)
def keptL (c : Int) : List Int := if goneB c = true then [] else [c]
theorem keptL_len (c : Int) : (keptL c).length ≤ 2 := by unfold keptL; split <;> simp
theorem kept_eq (c : Int) : prep_kept.f c = some (keptL c) := by
 show (if goneB c = true then some ([] : List Int) else some [c]) = _
 unfold keptL; split <;> rfl
def bannedB (c : Int) : Bool := (pairsL [0, 31, 127, 160, 5760, 5760, 8192, 8202, 8232, 8239, 8287, 8287, 12288, 12288, 57344, 63743, 65533, 65535, 917504, 917631, 983040, 1114111]).any (inR c)
theorem banned_eq (c : Int) : prep_banned.f c = some (bannedB c) := rfl
def resOk (c : Int) : Bool := !bannedB c
theorem res_eq (c : Int) : prep_Resource_1.f c = some (resOk c) := rfl
def prep_Resource.f (a0 : ByteArray) : Option (ByteArray × Int) := if a0.size ≤ 1000000000 then some (ofP keptL resOk a0) else none
set_option maxHeartbeats 4000000 in
set_option maxRecDepth 100000 in
theorem prep_Resource.calls (a0 : ByteArray) (r1 : ByteArray) (r2 : Int) (w : World) (h : prep_Resource.f a0 = some (r1, r2)) (hT : Tabs w) :
  Calls Tryz.prog 50 #[.string a0] w fun e w' => e = .returned (.tuple #[.string r1, .int .i64 r2]) ∧ Below w.heap.size w w' := by
 unfold prep_Resource.f at h
 split at h
 ·rename_i hs
  have he := Option.some.inj h
  have h1 : IsFn Tryz.prog 70 := ⟨⟨_, Tryz.func70, zz34, rfl⟩⟩
  have h2 : IsFn Tryz.prog 71 := ⟨⟨_, Tryz.func71, zz34, rfl⟩⟩
  have hlen : ((runesI a0).flatMap keptL).length ≤ 1000000000000 := by
   have := flat_len keptL keptL_len (runesI a0)
   have := runesI_len a0
   omega
  have H := Aside0.mk (prep_of.hof a0 70 71 #[] keptL resOk w hs hT h1 h2 hlen (fun x W _ => prep_kept.calls x _ W (kept_eq x)) (fun x W _ => prep_Resource_1.calls x _ W (res_eq x)))
  rw [he] at H
  clear he h hT hs h1 h2 hlen
  go_enter Tryz.func50, Tryz.ntmps50
  go_wp2_with (go_at_call 65; (with_reducible refine H.out.mono ?_); rintro e w1 ⟨rfl, hb⟩; have HB := Aside0.mk hb; clear hb H)
  go_ret2
  exact ⟨rfl, HB.out⟩
 cases h
def prep_small.j0 : Nat → Int → Bool → Option (List Int)
 | 0, _, _ => none
 | k + 1, x0, x3 => if x3 = true then (some (([wrap64 (x0 + 32)] : List Int))) else (if x0 = 223 then (some (([115, 115] : List Int))) else ((prep_kept.f x0).bind fun t191 => (some t191)))
def prep_small.f (k : Nat) (a0 : Int) : Option (List Int) := if a0 ≥ 65 then (if a0 ≤ 90 then (prep_small.j0 k a0 true) else (if a0 ≥ 192 then (if a0 ≤ 222 then (prep_small.j0 k a0 (a0 != 215)) else (prep_small.j0 k a0 false)) else (prep_small.j0 k a0 false))) else (if a0 ≥ 192 then (if a0 ≤ 222 then (prep_small.j0 k a0 (a0 != 215)) else (prep_small.j0 k a0 false)) else (prep_small.j0 k a0 false))
set_option maxRecDepth 100000 in
theorem lf7 {P : Prop} (h : P := by
 go_wp2_with (first | ((with_reducible refine gc 70 ?_); refine gL (some 30) Tryz.func70 #[.int .i64 a0] ?_; (with_reducible refine (prep_kept.calls a0 t191 _ A15.out).mono ?_); rintro e v0_ ⟨v192, rfl, ho0, hb⟩; refine ⟨_, rfl, ?_⟩; have n_ := as2 (Kd.R_lower ho0 (below_size zz0)) (below_step zz0 hb); clear HB; obtain ⟨HO193, HB⟩ := n_; (try clear hb ho0)) | ((with_reducible refine gate_dst (N := 24) rfl ?_); refine Kd.R_lit (Kd.int .i64) _ 3 ?hg (N := 24) ?hd (xs := ([wrap64 (a0 + 32)] : List Int)) (inner := [.int .i64 (wrap64 (a0 + 32))]) (ok := fun _ => True) (okp := fun _ => True) ?hr ?hp (fun _ hk => hk) trivial (Below.refl _ _) (Nat.le_refl _) (by simp) ?_; (case hd => rfl); (case hg => rfl); (case hr => exact zz29); (case hp => exact (Reps.one (show Kd.M (Kd.int .i64) _ _ _ (wrap64 (a0 + 32)) [.int .i64 (wrap64 (a0 + 32))] from rfl) (Reps.none _ _))); intro v186 v0_ ho11 hb hg_ hnew_; clear hg_ hnew_; (first | rw [← Ny185.out] at ho11 | (simp only [Int.reduceToNat] at ho11; rw [← Ny185.out] at ho11)); have n_ := as2 (Kd.R_lower ho11 (below_size zz0)) (below_step zz0 hb); clear HB; obtain ⟨HO187, HB⟩ := n_; clear hb ho11) | ((with_reducible refine gate_dst (N := 28) rfl ?_); refine Kd.R_lit (Kd.int .i64) _ 3 ?hg (N := 28) ?hd (xs := ([115, 115] : List Int)) (inner := [.int .i64 115, .int .i64 115]) (ok := fun _ => True) (okp := fun _ => True) ?hr ?hp (fun _ hk => hk) trivial (Below.refl _ _) (Nat.le_refl _) (by simp) ?_; (case hd => rfl); (case hg => rfl); (case hr => exact zz29); (case hp => exact (Reps.one (show Kd.M (Kd.int .i64) _ _ _ 115 [.int .i64 115] from rfl) (Reps.one (show Kd.M (Kd.int .i64) _ _ _ 115 [.int .i64 115] from rfl) (Reps.none _ _)))); intro v189 v0_ ho14 hb hg_ hnew_; clear hg_ hnew_; (first | rw [← Ny188.out] at ho14 | (simp only [Int.reduceToNat] at ho14; rw [← Ny188.out] at ho14)); have n_ := as2 (Kd.R_lower ho14 (below_size zz0)) (below_step zz0 hb); clear HB; obtain ⟨HO190, HB⟩ := n_; clear hb ho14))
 first
  | (go_meet; (case rel => exact ⟨_, (true), zz1, H', ⟨zz57⟩, ⟨zz0⟩⟩))
  | (go_meet; (case rel => exact ⟨_, ((a0 != 215)), zz1, H', ⟨zz57⟩, ⟨zz0⟩⟩))
  | (go_meet; (case rel => exact ⟨_, (false), zz1, H', ⟨zz57⟩, ⟨zz0⟩⟩))
  | (go_ret; exact ⟨_, zz4, by (with_reducible repeat (first | apply Kd.R_alloc | apply Kd.R_drewN | apply Kd.R_drew)); exact HO187.out, zz0⟩)
  | (go_ret; exact ⟨_, zz4, by (with_reducible repeat (first | apply Kd.R_alloc | apply Kd.R_drewN | apply Kd.R_drew)); exact HO190.out, zz0⟩)
  | (go_ret; exact ⟨_, zz4, by (with_reducible repeat (first | apply Kd.R_alloc | apply Kd.R_drewN | apply Kd.R_drew)); exact HO193.out, zz0⟩)) : P := h
set_option maxHeartbeats 8000000 in
set_option maxRecDepth 100000 in
theorem prep_small.calls (k : Nat) (a0 : Int) (r : List Int) (w : World) (h : prep_small.f k a0 = some r) :
  Calls Tryz.prog 66 #[.int .i64 a0] w fun e w' => ∃ v0_ : Value, e = .returned (v0_) ∧ Kd.R (Kd.int .i64) 3 w' w.heap.size (fun _ => True) v0_ r ∧ Below w.heap.size w w' := by
 have HB := Aside0.mk (Below.refl w.heap.size w)
 have H : (if a0 ≥ 65 then (if a0 ≤ 90 then (prep_small.j0 k a0 true) else (if a0 ≥ 192 then (if a0 ≤ 222 then (prep_small.j0 k a0 (a0 != 215)) else (prep_small.j0 k a0 false)) else (prep_small.j0 k a0 false))) else (if a0 ≥ 192 then (if a0 ≤ 222 then (prep_small.j0 k a0 (a0 != 215)) else (prep_small.j0 k a0 false)) else (prep_small.j0 k a0 false))) = some r := h
 clear h
 have HC2 := Aside0.mk H
 clear H
 go_enter Tryz.func66, Tryz.ntmps66
 go_upto_region 1 with (fail)
 go_cut [3] (fun v3 wc => ∃ (kq : Nat) (x3_1 : Bool), v3 = .bool x3_1 ∧ Aside0 (prep_small.j0 kq a0 x3_1 = some r) ∧ Aside0 (kq ≤ k) ∧ Aside0 (Below w.heap.size w wc))
 case first =>
  have H := HC2.out
  clear HC2
  by_cases c3 : a0 ≥ 65
  ·rw [if_pos c3] at H
   have c3b0 := decide_eq_true c3
   clear c3
   (first | rw [c3b0] | (simp only [i64_w, i32_w]; rw [c3b0]) | skip)
   by_cases c4 : a0 ≤ 90
   ·rw [if_pos c4] at H
    have c4b0 := decide_eq_true c4
    clear c4
    have H' := Aside0.mk H
    clear H
    exact lf7
   rw [if_neg c4] at H
   have c4b0 := decide_eq_false c4
   clear c4
   by_cases c5 : a0 ≥ 192
   ·rw [if_pos c5] at H
    have c5b0 := decide_eq_true c5
    clear c5
    by_cases c6 : a0 ≤ 222
    ·rw [if_pos c6] at H
     have c6b0 := decide_eq_true c6
     clear c6
     have H' := Aside0.mk H
     clear H
     exact lf7
    rw [if_neg c6] at H
    have c6b0 := decide_eq_false c6
    clear c6
    have H' := Aside0.mk H
    clear H
    exact lf7
   rw [if_neg c5] at H
   have c5b0 := decide_eq_false c5
   clear c5
   have H' := Aside0.mk H
   clear H
   exact lf7
  rw [if_neg c3] at H
  have c3b0 := decide_eq_false c3
  clear c3
  (first | rw [c3b0] | (simp only [i64_w, i32_w]; rw [c3b0]) | skip)
  by_cases c7 : a0 ≥ 192
  ·rw [if_pos c7] at H
   have c7b0 := decide_eq_true c7
   clear c7
   by_cases c8 : a0 ≤ 222
   ·rw [if_pos c8] at H
    have c8b0 := decide_eq_true c8
    clear c8
    have H' := Aside0.mk H
    clear H
    exact lf7
   rw [if_neg c8] at H
   have c8b0 := decide_eq_false c8
   clear c8
   have H' := Aside0.mk H
   clear H
   exact lf7
  rw [if_neg c7] at H
  have c7b0 := decide_eq_false c7
  clear c7
  have H' := Aside0.mk H
  clear H
  exact lf7
 case rest =>
  clear HC2
  try clear p2
  try clear c3
  try clear c3b0
  try clear c4
  try clear c4b0
  try clear c5
  try clear c5b0
  try clear c6
  try clear c6b0
  try clear c7
  try clear c7b0
  try clear c8
  try clear c8b0
  obtain ⟨kq, x3_1, rfl, HA, HJ1, HB⟩ := hcut
  cases kq with
  | zero => exact absurd HA.out (by simp [prep_small.j0])
  | succ kj1 =>
   have H := HA.out
   clear HA
   simp only [prep_small.j0] at H
   by_cases c9 : x3_1 = true
   ·subst c9
    have H1 : (some (([wrap64 (a0 + 32)] : List Int))) = some r := by rw [if_pos rfl] at H; exact H
    clear H
    have H := H1
    clear H1
    obtain ⟨y185, hy185⟩ : ∃ y_ : List Int, y_ = (([wrap64 (a0 + 32)] : List Int)) := ⟨_, rfl⟩
    replace H : (some y185) = some r := by first | (rw [hy185]; with_reducible exact H) | (have H2_ := (Option.bind_some _ _).symm.trans H; rw [hy185]; with_reducible exact H2_) | (have H2_ := (Option.bind_some _ _).symm.trans H; with_reducible exact H2_) | with_reducible exact H | (rw [hy185]; exact H) | exact H
    have Ny185 := Aside0.mk hy185
    clear hy185
    obtain rfl := Option.some.inj H
    exact lf7
   replace c9 := Bool.eq_false_iff.mpr c9
   subst c9
   have H1 : (if a0 = 223 then (some (([115, 115] : List Int))) else ((prep_kept.f a0).bind fun t191 => (some t191))) = some r := by rw [if_neg (show ¬ (false = true) by decide)] at H; exact H
   clear H
   have H := H1
   clear H1
   by_cases c12 : a0 = 223
   ·rw [if_pos c12] at H
    obtain ⟨c12b0, c12b1⟩ := eqT c12
    clear c12
    obtain ⟨y188, hy188⟩ : ∃ y_ : List Int, y_ = (([115, 115] : List Int)) := ⟨_, rfl⟩
    replace H : (some y188) = some r := by first | (rw [hy188]; with_reducible exact H) | (have H2_ := (Option.bind_some _ _).symm.trans H; rw [hy188]; with_reducible exact H2_) | (have H2_ := (Option.bind_some _ _).symm.trans H; with_reducible exact H2_) | with_reducible exact H | (rw [hy188]; exact H) | exact H
    have Ny188 := Aside0.mk hy188
    clear hy188
    obtain rfl := Option.some.inj H
    exact lf7
   rw [if_neg c12] at H
   obtain ⟨c12b0, c12b1⟩ := eqF c12
   replace H := Option.bind_eq_some_iff.mp H
   obtain ⟨t191, A150, H⟩ := H
   try dsimp only at H
   have A15 := Aside0.mk A150
   clear A150
   obtain rfl := Option.some.inj H
   exact lf7
def slices_Index_int_int.l0 : Nat → List Int → Int → Int → Int → Option (Int)
 | 0, _, _, _, _ => none
 | k + 1, x0, x1, x7, x8 => if x8 < x7 then (if 0 ≤ x8 then (if x8 < (x0.length : Int) then (if x1 = (rd x0 x8) then (some x8) else (slices_Index_int_int.l0 k x0 x1 x7 (wrap64 (x8 + 1)))) else (none)) else (none)) else (some (-1))
def slices_Index_int_int.f (k : Nat) (l0 : List Int) (a1 : Int) : Option (Int) := slices_Index_int_int.l0 k l0 a1 (l0.length : Int) 0
theorem lf8 {P : Prop} (h : P := by
 go_wp2
 first
  | (go_ret; exact ⟨zz1, zz17⟩)
  | (go_roundg k1; (case measure => have := HK1.out; omega); (case rel => exact ⟨(wrap64 (x8_1 + 1)), zz1, H', ⟨zz58⟩, zz17⟩))) : P := h
set_option maxHeartbeats 8000000 in
set_option maxRecDepth 100000 in
theorem slices_Index_int_int.calls (k : Nat) (A0 : Option Addr) (c0 : Nat) (l0 : List Int) (a1 : Int) (r : Int) (w : World) (hr0 : Kd.C (Kd.int .i64) w A0 l0.length l0) (hc0 : l0.length ≤ c0) (h : slices_Index_int_int.f k l0 a1 = some r) :
  Calls Tryz.prog 96 #[.slice A0 l0.length c0, .int .i64 a1] w fun e w' => e = .returned (.int .i64 r) ∧ Drawn0 w w' := by
 have HR0 := Aside0.mk hr0
 have HC0 := Aside0.mk hc0
 clear hr0 hc0
 have H : (slices_Index_int_int.l0 k l0 a1 (l0.length : Int) 0) = some r := h
 clear h
 have H' := Aside0.mk H
 clear H
 go_enter Tryz.func96, Tryz.ntmps96
 go_wp2
 go_loopg [8] k (fun kq v8 w' => ∃ (x8_1 : Int), v8 = .int .i64 x8_1 ∧ Aside0 (slices_Index_int_int.l0 kq l0 a1 (l0.length : Int) x8_1 = some r) ∧ Aside0 (kq ≤ k) ∧ Drawn0 w w')
 case atStart => exact ⟨(0), zz1, H', ⟨Nat.le_refl _⟩, zz17⟩
 case round =>
  clear H'
  try clear p2
  obtain ⟨x8_1, rfl, HA, HK1, ⟨m1, rfl⟩⟩ := hrel
  cases gk with
  | zero => exact absurd HA.out (by simp [slices_Index_int_int.l0])
  | succ k1 =>
   have H := HA.out
   clear HA
   simp only [slices_Index_int_int.l0] at H
   by_cases c3 : x8_1 < (l0.length : Int)
   ·rw [if_pos c3] at H
    have c3b0 := decide_eq_true c3
    clear c3
    by_cases c4 : 0 ≤ x8_1
    ·rw [if_pos c4] at H
     have c4b0 := decide_eq_true c4
     clear c4
     by_cases c5 : x8_1 < (l0.length : Int)
     ·rw [if_pos c5] at H
      have c5b0 := decide_eq_true c5
      clear c5
      by_cases c6 : a1 = (rd l0 x8_1)
      ·rw [if_pos c6] at H
       obtain ⟨c6b0, c6b1⟩ := eqT c6
       clear c6
       obtain rfl := Option.some.inj H
       have p194 : 0 ≤ (x8_1 : Int) := of_decide_eq_true zz6
       have q194 : x8_1 < (l0.length : Int) := of_decide_eq_true zz6
       obtain ⟨ad194, e194, hx194_0⟩ := Kd.at_int HR0.out x8_1 p194 q194
       cases e194
       replace p194 := eq_true p194
       replace q194 := eq_true q194
       exact lf8
      rw [if_neg c6] at H
      obtain ⟨c6b0, c6b1⟩ := eqF c6
      have H' := Aside0.mk H
      clear H
      have p194 : 0 ≤ (x8_1 : Int) := of_decide_eq_true zz6
      have q194 : x8_1 < (l0.length : Int) := of_decide_eq_true zz6
      obtain ⟨ad194, e194, hx194_0⟩ := Kd.at_int HR0.out x8_1 p194 q194
      cases e194
      replace p194 := eq_true p194
      replace q194 := eq_true q194
      exact lf8
     rw [if_neg c5] at H
     exact absurd H (by simp)
    rw [if_neg c4] at H
    exact absurd H (by simp)
   rw [if_neg c3] at H
   have c3b0 := decide_eq_false c3
   clear c3
   obtain rfl := Option.some.inj H
   exact lf8
def slices_Contains_int_int.f (k : Nat) (l0 : List Int) (a1 : Int) : Option (Bool) := (slices_Index_int_int.f k l0 a1).bind fun t195 => (some (decide (t195 ≥ 0)))
set_option maxHeartbeats 8000000 in
set_option maxRecDepth 100000 in
theorem slices_Contains_int_int.calls (k : Nat) (A0 : Option Addr) (c0 : Nat) (l0 : List Int) (a1 : Int) (r : Bool) (w : World) (hr0 : Kd.C (Kd.int .i64) w A0 l0.length l0) (hc0 : l0.length ≤ c0) (h : slices_Contains_int_int.f k l0 a1 = some r) :
  Calls Tryz.prog 69 #[.slice A0 l0.length c0, .int .i64 a1] w fun e w' => e = .returned (.bool r) ∧ Drawn0 w w' := by
 have HR0 := Aside0.mk hr0
 have HC0 := Aside0.mk hc0
 clear hr0 hc0
 have H : ((slices_Index_int_int.f k l0 a1).bind fun t195 => (some (decide (t195 ≥ 0)))) = some r := h
 clear h
 replace H := Option.bind_eq_some_iff.mp H
 obtain ⟨t195, A30, H⟩ := H
 try dsimp only at H
 have A3 := Aside0.mk A30
 clear A30
 obtain rfl := Option.some.inj H
 go_enter Tryz.func69, Tryz.ntmps69
 go_wp2_with (first | ((with_reducible refine gc 96 ?_); refine gL (some 7) Tryz.func96 #[.slice A0 l0.length c0, .int .i64 a1] ?_; (with_reducible refine (slices_Index_int_int.calls k _ _ l0 a1 t195 _ ?side1 ?side2 A3.out).mono ?_); (case side1 => exact (by repeat (first | exact HR0.out | (with_reducible refine Kd.C_alloc ?_ _) | (with_reducible refine Kd.C_drewN ?_ _) | (with_reducible refine Kd.C_drew ?_)))); (case side2 => exact HC0.out); rintro e w' ⟨rfl, ⟨nd, rfl⟩⟩; refine ⟨_, rfl, ?_⟩))
 go_ret
 exact ⟨zz1, zz17⟩
def prep_Node_1.f (k : Nat) (a0 : Int) : Option (Bool) := (prep_banned.f a0).bind fun t196 => (if t196 = true then (some false) else ((slices_Contains_int_int.f k (([32, 34, 38, 39, 47, 58, 60, 62, 64] : List Int)) a0).bind fun t200 => (some (!t200))))
set_option maxRecDepth 100000 in
theorem lf9 {P : Prop} (h : P := by
 go_enter Tryz.func67, Tryz.ntmps67
 go_wp2_with (first | ((with_reducible refine gc 68 ?_); refine gL (some 4) Tryz.func68 #[.int .i64 a0] ?_; (with_reducible refine (prep_banned.calls a0 true _ A2.out).mono ?_); rintro e v0_ ⟨rfl, hb⟩; refine ⟨_, rfl, ?_⟩; replace HB := Aside0.mk (below_step zz0 hb); (try clear hb)) | ((with_reducible refine gc 68 ?_); refine gL (some 4) Tryz.func68 #[.int .i64 a0] ?_; (with_reducible refine (prep_banned.calls a0 false _ A2.out).mono ?_); rintro e v0_ ⟨rfl, hb⟩; refine ⟨_, rfl, ?_⟩; replace HB := Aside0.mk (below_step zz0 hb); (try clear hb)) | ((with_reducible refine gate_dst (N := 7) rfl ?_); (try (refine gate_guard (by rfl) ?_; dsimp only)); refine Kd.R_lit (Kd.int .i64) _ 3 ?hg (N := 7) ?hd (xs := ([32, 34, 38, 39, 47, 58, 60, 62, 64] : List Int)) (inner := [.int .i64 32, .int .i64 34, .int .i64 38, .int .i64 39, .int .i64 47, .int .i64 58, .int .i64 60, .int .i64 62, .int .i64 64]) (ok := fun _ => True) (okp := fun _ => True) ?hr ?hp (fun _ hk => hk) trivial (Below.refl _ _) (Nat.le_refl _) (by simp) ?_; (case hd => rfl); (case hg => rfl); (case hr => exact zz29); (case hp => exact (Reps.one (show Kd.M (Kd.int .i64) _ _ _ 32 [.int .i64 32] from rfl) (Reps.one (show Kd.M (Kd.int .i64) _ _ _ 34 [.int .i64 34] from rfl) (Reps.one (show Kd.M (Kd.int .i64) _ _ _ 38 [.int .i64 38] from rfl) (Reps.one (show Kd.M (Kd.int .i64) _ _ _ 39 [.int .i64 39] from rfl) (Reps.one (show Kd.M (Kd.int .i64) _ _ _ 47 [.int .i64 47] from rfl) (Reps.one (show Kd.M (Kd.int .i64) _ _ _ 58 [.int .i64 58] from rfl) (Reps.one (show Kd.M (Kd.int .i64) _ _ _ 60 [.int .i64 60] from rfl) (Reps.one (show Kd.M (Kd.int .i64) _ _ _ 62 [.int .i64 62] from rfl) (Reps.one (show Kd.M (Kd.int .i64) _ _ _ 64 [.int .i64 64] from rfl) (Reps.none _ _))))))))))); intro v198 v1_ ho8 hb hg_ hnew_; clear hg_ hnew_; (first | rw [← Ny197.out] at ho8 | (simp only [Int.reduceToNat] at ho8; rw [← Ny197.out] at ho8)); have n_ := as2 (Kd.R_lower ho8 (below_size zz0)) (below_step zz0 hb); clear HB; obtain ⟨HO199, HB⟩ := n_; clear hb ho8; obtain ⟨Ao9, co9, eo9⟩ := Kd.R_slice HO199.out; subst eo9) | (go_at_call 69; (with_reducible refine (slices_Contains_int_int.calls k _ _ y197 a0 t200 _ ?side1 ?side2 A5.out).mono ?_); (case side1 => exact (by repeat (first | exact (Kd.R_reads' HO199.out).2.2 | (with_reducible refine Kd.C_alloc ?_ _) | (with_reducible refine Kd.C_drewN ?_ _) | (with_reducible refine Kd.C_drew ?_)))); (case side2 => exact (Kd.R_reads' HO199.out).2.1); rintro e w' ⟨rfl, ⟨nd, rfl⟩⟩))
 go_ret; exact ⟨zz4, zz0⟩) : P := h
set_option maxHeartbeats 8000000 in
set_option maxRecDepth 100000 in
theorem prep_Node_1.calls (k : Nat) (a0 : Int) (r : Bool) (w : World) (h : prep_Node_1.f k a0 = some r) :
  Calls Tryz.prog 67 #[.int .i64 a0] w fun e w' => e = .returned (.bool r) ∧ Below w.heap.size w w' := by
 have HB := Aside0.mk (Below.refl w.heap.size w)
 have H : ((prep_banned.f a0).bind fun t196 => (if t196 = true then (some false) else ((slices_Contains_int_int.f k (([32, 34, 38, 39, 47, 58, 60, 62, 64] : List Int)) a0).bind fun t200 => (some (!t200))))) = some r := h
 clear h
 replace H := Option.bind_eq_some_iff.mp H
 obtain ⟨t196, A20, H⟩ := H
 try dsimp only at H
 have A2 := Aside0.mk A20
 clear A20
 by_cases c3 : t196 = true
 ·subst c3
  have H1 : (some false) = some r := by rw [if_pos rfl] at H; exact H
  clear H
  have H := H1
  clear H1
  obtain rfl := Option.some.inj H
  exact lf9
 replace c3 := Bool.eq_false_iff.mpr c3
 subst c3
 have H1 : ((slices_Contains_int_int.f k (([32, 34, 38, 39, 47, 58, 60, 62, 64] : List Int)) a0).bind fun t200 => (some (!t200))) = some r := by rw [if_neg (show ¬ (false = true) by decide)] at H; exact H
 clear H
 have H := H1
 clear H1
 obtain ⟨y197, hy197⟩ : ∃ y_ : List Int, y_ = (([32, 34, 38, 39, 47, 58, 60, 62, 64] : List Int)) := ⟨_, rfl⟩
 replace H : ((slices_Contains_int_int.f k y197 a0).bind fun t200 => (some (!t200))) = some r := by first | (rw [hy197]; with_reducible exact H) | (have H2_ := (Option.bind_some _ _).symm.trans H; rw [hy197]; with_reducible exact H2_) | (have H2_ := (Option.bind_some _ _).symm.trans H; with_reducible exact H2_) | with_reducible exact H | (rw [hy197]; exact H) | exact H
 have Ny197 := Aside0.mk hy197
 clear hy197
 replace H := Option.bind_eq_some_iff.mp H
 obtain ⟨t200, A50, H⟩ := H
 try dsimp only at H
 have A5 := Aside0.mk A50
 clear A50
 obtain rfl := Option.some.inj H
 exact lf9
def smallL (c : Int) : List Int := if (65 ≤ c ∧ c ≤ 90) ∨ (192 ≤ c ∧ c ≤ 222 ∧ c ≠ 215) then [c + 32] else if c = 223 then [115, 115] else keptL c
theorem smallL_len (c : Int) : (smallL c).length ≤ 2 := by
 unfold smallL
 have := keptL_len c
 repeat' split
 all_goals simp_all
theorem small_eq (c : Int) : prep_small.f 1 c = some (smallL c) := by
 unfold prep_small.f smallL
 have hj : ∀ b, prep_small.j0 1 c b = if b = true then some [wrap64 (c + 32)] else if c = 223 then some [115, 115] else some (keptL c) := by
  intro b
  show (if b = true then _ else _) = _
  rw [kept_eq]; rfl
 have hw : 65 ≤ c → c ≤ 222 → wrap64 (c + 32) = c + 32 := fun _ _ => by unfold wrap64; omega
 simp only [hj]
 by_cases h1 : c ≥ 65
 ·rw [if_pos h1]
  by_cases h2 : c ≤ 90
  ·rw [if_pos h2, if_pos trivial, if_pos (.inl ⟨h1, h2⟩), hw h1 (by omega)]
  rw [if_neg h2]
  by_cases h3 : c ≥ 192
  ·rw [if_pos h3]
   by_cases h4 : c ≤ 222
   ·rw [if_pos h4]
    by_cases h5 : c = 215
    ·subst h5; rfl
    rw [if_pos (bne_iff_ne.2 h5), if_pos (.inr ⟨h3, h4, h5⟩), hw h1 h4]
   rw [if_neg h4, if_neg Bool.false_ne_true, if_neg (by omega : ¬ ((65 ≤ c ∧ c ≤ 90) ∨ (192 ≤ c ∧ c ≤ 222 ∧ c ≠ 215)))]
   split <;> rfl
  rw [if_neg h3, if_neg Bool.false_ne_true, if_neg (by omega : ¬ ((65 ≤ c ∧ c ≤ 90) ∨ (192 ≤ c ∧ c ≤ 222 ∧ c ≠ 215)))]
  split <;> rfl
 rw [if_neg h1]
 by_cases h3 : c ≥ 192
 ·omega
 rw [if_neg h3, if_neg Bool.false_ne_true, if_neg (by omega : ¬ ((65 ≤ c ∧ c ≤ 90) ∨ (192 ≤ c ∧ c ≤ 222 ∧ c ≠ 215)))]
 split <;> rfl
theorem index_eq (l : List Int) (x : Int) (hl : l.length < 9223372036854775807) : ∀ (d k i : Nat), i + d = l.length → d < k → slices_Index_int_int.l0 k l x (l.length : Int) (i : Int) = some (match (l.drop i).findIdx? (fun y => y == x) with | some j => ((i + j : Nat) : Int) | none => -1)
 | 0, k, i, h, hk => by
  obtain ⟨k, rfl⟩ : ∃ m, k = m + 1 := ⟨k - 1, by omega⟩
  simp only [slices_Index_int_int.l0]
  rw [if_neg (by omega), List.drop_eq_nil_of_le (by omega)]
  rfl
 | d + 1, k, i, h, hk => by
  obtain ⟨k, rfl⟩ : ∃ m, k = m + 1 := ⟨k - 1, by omega⟩
  simp only [slices_Index_int_int.l0]
  have hi : i < l.length := by omega
  rw [if_pos (by omega), if_pos (by omega), if_pos (by omega), rd_get l i hi, List.drop_eq_getElem_cons hi, List.findIdx?_cons]
  by_cases hx : x = l[i]
  ·rw [if_pos hx, if_pos (by simp [hx])]; simp
  rw [if_neg hx, if_neg (by simp; exact fun e => hx e.symm), show wrap64 ((i : Int) + 1) = ((i + 1 : Nat) : Int) by unfold wrap64; omega, index_eq l x hl d k (i + 1) (by omega) (by omega)]
  cases (l.drop (i + 1)).findIdx? (fun y => y == x) with
  | none => rfl
  | some j => exact congrArg some (by show (((i + 1) + j : Nat) : Int) = ((i + (j + 1) : Nat) : Int); omega)
theorem contains_eq (l : List Int) (x : Int) (k : Nat) (hl : l.length < 9223372036854775807) (hk : l.length < k) : slices_Contains_int_int.f k l x = some (l.contains x) := by
 unfold slices_Contains_int_int.f slices_Index_int_int.f
 have := index_eq l x hl l.length k 0 (by omega) hk
 rw [show (0 : Int) = ((0 : Nat) : Int) from rfl, this]
 simp only [Option.bind_some, List.drop_zero]
 congr 1
 cases h : l.findIdx? (fun y => y == x) with
 | some j =>
  obtain ⟨hj, hx, _⟩ := List.findIdx?_eq_some_iff_getElem.1 h
  have : l.contains x = true := by rw [List.contains_iff_mem]; rw [← eq_of_beq hx]; exact List.getElem_mem _
  rw [this]; simp
 | none =>
  have h2 := List.findIdx?_eq_none_iff.1 h
  have : l.contains x = false := by
   rw [Bool.eq_false_iff]; intro hc
   have := h2 x (List.contains_iff_mem.1 hc)
   simp at this
  rw [this]; simp
def nodeBad : List Int := [32, 34, 38, 39, 47, 58, 60, 62, 64]
def nodeOk (c : Int) : Bool := !bannedB c && !nodeBad.contains c
theorem node_eq (c : Int) : prep_Node_1.f 10 c = some (nodeOk c) := by
 unfold prep_Node_1.f nodeOk
 rw [banned_eq]
 simp only [Option.bind_some]
 rw [show (([32, 34, 38, 39, 47, 58, 60, 62, 64] : List Int)) = nodeBad from rfl, contains_eq nodeBad c 10 (by decide) (by decide)]
 cases bannedB c <;> rfl
def prep_Node.f (a0 : ByteArray) : Option (ByteArray × Int) := if a0.size ≤ 1000000000 then some (ofP smallL nodeOk a0) else none
set_option maxHeartbeats 4000000 in
set_option maxRecDepth 100000 in
theorem prep_Node.calls (a0 : ByteArray) (r1 : ByteArray) (r2 : Int) (w : World) (h : prep_Node.f a0 = some (r1, r2)) (hT : Tabs w) :
  Calls Tryz.prog 49 #[.string a0] w fun e w' => e = .returned (.tuple #[.string r1, .int .i64 r2]) ∧ Below w.heap.size w w' := by
 unfold prep_Node.f at h
 split at h
 ·rename_i hs
  have he := Option.some.inj h
  have h1 : IsFn Tryz.prog 66 := ⟨⟨_, Tryz.func66, zz34, rfl⟩⟩
  have h2 : IsFn Tryz.prog 67 := ⟨⟨_, Tryz.func67, zz34, rfl⟩⟩
  have hlen : ((runesI a0).flatMap smallL).length ≤ 1000000000000 := by
   have := flat_len smallL smallL_len (runesI a0)
   have := runesI_len a0
   omega
  have H := Aside0.mk (prep_of.hof a0 66 67 #[] smallL nodeOk w hs hT h1 h2 hlen (fun x W _ => prep_small.calls 1 x _ W (small_eq x)) (fun x W _ => prep_Node_1.calls 10 x _ W (node_eq x)))
  rw [he] at H
  clear he h hT hs h1 h2 hlen
  go_enter Tryz.func49, Tryz.ntmps49
  go_wp2_with (go_at_call 65; (with_reducible refine H.out.mono ?_); rintro e w1 ⟨rfl, hb⟩; have HB := Aside0.mk hb; clear hb H)
  go_ret2
  exact ⟨rfl, HB.out⟩
 cases h
end Go.Proofs.YtaekklpphlcngaaGreatDoor.Q
