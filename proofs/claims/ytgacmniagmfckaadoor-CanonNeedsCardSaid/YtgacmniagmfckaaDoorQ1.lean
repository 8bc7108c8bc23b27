-- Written by hookprint.py (wip/) of this session: the kit's print with hand-proved functions beside it. Not trusted: Lean checks it.
import Derived.Test.YtgacmniagmfckaaDoorQ0
namespace Go.Proofs.YtgacmniagmfckaaDoor.Q
open List (setIfInBounds_toArray set_cons_zero set_cons_succ)
open Go.RowKit Go.Lib Go.Proofs.YtgacmniagmfckaaDoorX Go.Proofs.YtgacmniagmfckaaDoorW.PrintWords Go.Proofs.YtgacmniagmfckaaDoorW.PrintLast Go.Proofs.YtgacmniagmfckaaDoorW.PrintMore
set_option linter.unusedVariables false
set_option linter.unusedSimpArgs false
def strings_Contains.f (a0 a1 : ByteArray) : Option Bool := if a1.size = 1 then some (a0.data.toList.contains (a1.data.toList.getD 0 0)) else none
theorem one_byte (a1 : ByteArray) (h : a1.size = 1) : a1 = ⟨#[a1.data.toList.getD 0 0]⟩ := by
 have hl : a1.data.toList.length = 1 := by rw [Array.length_toList]; exact h
 obtain ⟨c, hc⟩ := List.length_eq_one_iff.1 hl
 have : a1 = ⟨a1.data.toList.toArray⟩ := rfl
 rw [this, hc]; rfl
theorem indexByte_low (l : List UInt8) (c : UInt8) : -1 ≤ Lib.indexByte l c := by
 induction l with
 | nil => exact Int.le_refl _
 | cons b t ih =>
  unfold Lib.indexByte
  split
  ·decide
  split
  ·decide
  omega
theorem indexByte_contains (l : List UInt8) (c : UInt8) : decide (0 ≤ Lib.indexByte l c) = l.contains c := by
 induction l with
 | nil => rfl
 | cons b t ih =>
  have hl := indexByte_low t c
  rw [List.contains_cons, ← ih]
  show decide (0 ≤ if (b == c) = true then (0 : Int) else if (Lib.indexByte t c == -1) = true then -1 else Lib.indexByte t c + 1) = _
  by_cases h : b = c
  ·subst h; simp
  have h1 : (b == c) = false := beq_eq_false_iff_ne.2 h
  have h2 : (c == b) = false := beq_eq_false_iff_ne.2 fun e => h e.symm
  rw [h1, h2]
  simp only [Bool.false_eq_true, if_false, Bool.false_or]
  split
  ·rename_i h3
   rw [beq_iff_eq] at h3
   rw [h3]
  rename_i h3
  have h3' : ¬ Lib.indexByte t c = -1 := by simpa using h3
  apply decide_eq_decide.2
  omega
set_option maxHeartbeats 4000000 in
set_option maxRecDepth 100000 in
theorem strings_Contains.calls (a0 a1 : ByteArray) (r : Bool) (w : World) (h : strings_Contains.f a0 a1 = some r) (hT : Tabs w) :
  Calls Tryd.prog 39 #[.string a0, .string a1] w fun e w' => e = .returned (.bool r) ∧ Below w.heap.size w w' := by
 unfold strings_Contains.f at h
 split at h
 ·rename_i hs
  obtain rfl := Option.some.inj h
  rw [one_byte a1 hs]
  refine (Tryd.strings_Contains_one a0 (a1.data.toList.getD 0 0) w).mono ?_
  rintro e w' ⟨rfl, rfl⟩
  exact ⟨by rw [indexByte_contains]; rfl, Below.refl _ _⟩
 cases h
def strings_Trim.f (a0 a1 : ByteArray) : Option ByteArray := if a0.size ≤ 9223372036854775807 ∧ a1.size < 4294967281 ∧ a1.data.toList.all (fun b => decide (b.toNat < 128)) = true then some ⟨(Lib.trimS a0.data.toList a1.data.toList).toArray⟩ else none
set_option maxHeartbeats 4000000 in
set_option maxRecDepth 100000 in
theorem strings_Trim.calls (a0 a1 : ByteArray) (r : ByteArray) (w : World) (h : strings_Trim.f a0 a1 = some r) :
  Calls Tryd.prog 40 #[.string a0, .string a1] w fun e w' => e = .returned (.string r) ∧ Below w.heap.size w w' := by
 unfold strings_Trim.f at h
 split at h
 ·rename_i hs
  obtain rfl := Option.some.inj h
  exact Any.strings_Trim_laid Tryd.lays160 (by kernel_rfl) a0 a1 w hs.1 hs.2.1 (ascii_of_all hs.2.2)
 cases h
def canon_name.f (a0 : ByteArray) : Option (Bool) := if a0.toList = ([] : List UInt8) then (some false) else (if 0 ≤ 1 then (if 1 ≤ (a0.size : Int) then ((strings_Contains.f (⟨#[65, 66, 67, 68, 69, 70, 71, 72, 73, 74, 75, 76, 77, 78, 79, 80, 81, 82, 83, 84, 85, 86, 87, 88, 89, 90, 97, 98, 99, 100, 101, 102, 103, 104, 105, 106, 107, 108, 109, 110, 111, 112, 113, 114, 115, 116, 117, 118, 119, 120, 121, 122, 95]⟩ : ByteArray) (a0.extract 0 1)).bind fun t102 => (if t102 = true then ((strings_Trim.f a0 (⟨#[65, 66, 67, 68, 69, 70, 71, 72, 73, 74, 75, 76, 77, 78, 79, 80, 81, 82, 83, 84, 85, 86, 87, 88, 89, 90, 97, 98, 99, 100, 101, 102, 103, 104, 105, 106, 107, 108, 109, 110, 111, 112, 113, 114, 115, 116, 117, 118, 119, 120, 121, 122, 95, 48, 49, 50, 51, 52, 53, 54, 55, 56, 57, 45, 46]⟩ : ByteArray)).bind fun t103 => (some (t103.toList == ([] : List UInt8)))) else (some false))) else (none)) else (none))
set_option maxHeartbeats 8000000 in
set_option maxRecDepth 100000 in
theorem canon_name.calls (a0 : ByteArray) (r : Bool) (w : World) (h : canon_name.f a0 = some r) (hT : Tabs w) :
  Calls Tryd.prog 29 #[.string a0] w fun e w' => e = .returned (.bool r) ∧ Below w.heap.size w w' := by
 have HT := Aside0.mk hT
 clear hT
 have HB := Aside0.mk (Below.refl w.heap.size w)
 have H : (if a0.toList = ([] : List UInt8) then (some false) else (if 0 ≤ 1 then (if 1 ≤ (a0.size : Int) then ((strings_Contains.f (⟨#[65, 66, 67, 68, 69, 70, 71, 72, 73, 74, 75, 76, 77, 78, 79, 80, 81, 82, 83, 84, 85, 86, 87, 88, 89, 90, 97, 98, 99, 100, 101, 102, 103, 104, 105, 106, 107, 108, 109, 110, 111, 112, 113, 114, 115, 116, 117, 118, 119, 120, 121, 122, 95]⟩ : ByteArray) (a0.extract 0 1)).bind fun t102 => (if t102 = true then ((strings_Trim.f a0 (⟨#[65, 66, 67, 68, 69, 70, 71, 72, 73, 74, 75, 76, 77, 78, 79, 80, 81, 82, 83, 84, 85, 86, 87, 88, 89, 90, 97, 98, 99, 100, 101, 102, 103, 104, 105, 106, 107, 108, 109, 110, 111, 112, 113, 114, 115, 116, 117, 118, 119, 120, 121, 122, 95, 48, 49, 50, 51, 52, 53, 54, 55, 56, 57, 45, 46]⟩ : ByteArray)).bind fun t103 => (some (t103.toList == ([] : List UInt8)))) else (some false))) else (none)) else (none))) = some r := h
 clear h
 by_cases c2 : a0.toList = ([] : List UInt8)
 ·rw [if_pos c2] at H
  have c2b0 : (a0.toList == ([] : List UInt8)) = true := beq_iff_eq.mpr c2
  have c2b1 : (a0.toList != ([] : List UInt8)) = false := bne_eq_false_iff_eq.mpr c2
  clear c2
  obtain rfl := Option.some.inj H
  go_enter Tryd.func29, Tryd.ntmps29
  go_wp2
  go_ret
  exact ⟨by first | rfl | (simp only [nemp]; rfl) | (simp [errW_none, errW_some] <;> rfl) | (simp [*, errW_none, errW_some] <;> rfl), by repeat (first | (with_reducible first | exact HB.out | apply below_alloc | apply pw_below_drewN | apply below_drew1) | exact HB.out)⟩
 rw [if_neg c2] at H
 have c2b0 : (a0.toList == ([] : List UInt8)) = false := beq_eq_false_iff_ne.mpr c2
 have c2b1 : (a0.toList != ([] : List UInt8)) = true := bne_iff_ne.mpr c2
 by_cases c3 : 0 ≤ 1
 ·rw [if_pos c3] at H
  have c3b0 := eq_true c3
  have c3b1 : decide (0 ≤ 1) = true := decide_eq_true c3
  clear c3
  by_cases c4 : 1 ≤ (a0.size : Int)
  ·rw [if_pos c4] at H
   have c4b0 := eq_true c4
   have c4b1 : decide (1 ≤ (a0.size : Int)) = true := decide_eq_true c4
   clear c4
   obtain ⟨y101, hy101⟩ : ∃ y_ : ByteArray, y_ = (a0.extract 0 1) := ⟨_, rfl⟩
   replace H : ((strings_Contains.f (⟨#[65, 66, 67, 68, 69, 70, 71, 72, 73, 74, 75, 76, 77, 78, 79, 80, 81, 82, 83, 84, 85, 86, 87, 88, 89, 90, 97, 98, 99, 100, 101, 102, 103, 104, 105, 106, 107, 108, 109, 110, 111, 112, 113, 114, 115, 116, 117, 118, 119, 120, 121, 122, 95]⟩ : ByteArray) y101).bind fun t102 => (if t102 = true then ((strings_Trim.f a0 (⟨#[65, 66, 67, 68, 69, 70, 71, 72, 73, 74, 75, 76, 77, 78, 79, 80, 81, 82, 83, 84, 85, 86, 87, 88, 89, 90, 97, 98, 99, 100, 101, 102, 103, 104, 105, 106, 107, 108, 109, 110, 111, 112, 113, 114, 115, 116, 117, 118, 119, 120, 121, 122, 95, 48, 49, 50, 51, 52, 53, 54, 55, 56, 57, 45, 46]⟩ : ByteArray)).bind fun t103 => (some (t103.toList == ([] : List UInt8)))) else (some false))) = some r := by first | (rw [hy101]; with_reducible exact H) | (have H2_ := (Option.bind_some _ _).symm.trans H; rw [hy101]; with_reducible exact H2_) | (have H2_ := (Option.bind_some _ _).symm.trans H; with_reducible exact H2_) | with_reducible exact H | (rw [hy101]; exact H) | exact H
   have Ny101 := Aside0.mk hy101
   clear hy101
   have ey101 : (a0.extract 0 1) = y101 := Ny101.out.symm
   replace H := Option.bind_eq_some_iff.mp H
   obtain ⟨t102, A50, H⟩ := H
   replace H : (if t102 = true then ((strings_Trim.f a0 (⟨#[65, 66, 67, 68, 69, 70, 71, 72, 73, 74, 75, 76, 77, 78, 79, 80, 81, 82, 83, 84, 85, 86, 87, 88, 89, 90, 97, 98, 99, 100, 101, 102, 103, 104, 105, 106, 107, 108, 109, 110, 111, 112, 113, 114, 115, 116, 117, 118, 119, 120, 121, 122, 95, 48, 49, 50, 51, 52, 53, 54, 55, 56, 57, 45, 46]⟩ : ByteArray)).bind fun t103 => (some (t103.toList == ([] : List UInt8)))) else (some false)) = some r := H
   have A5 := Aside0.mk A50
   clear A50
   by_cases c6 : t102 = true
   ·subst c6
    have H1 : ((strings_Trim.f a0 (⟨#[65, 66, 67, 68, 69, 70, 71, 72, 73, 74, 75, 76, 77, 78, 79, 80, 81, 82, 83, 84, 85, 86, 87, 88, 89, 90, 97, 98, 99, 100, 101, 102, 103, 104, 105, 106, 107, 108, 109, 110, 111, 112, 113, 114, 115, 116, 117, 118, 119, 120, 121, 122, 95, 48, 49, 50, 51, 52, 53, 54, 55, 56, 57, 45, 46]⟩ : ByteArray)).bind fun t103 => (some (t103.toList == ([] : List UInt8)))) = some r := by rw [if_pos rfl] at H; exact H
    clear H
    have H := H1
    clear H1
    replace H := Option.bind_eq_some_iff.mp H
    obtain ⟨t103, A70, H⟩ := H
    replace H : (some (t103.toList == ([] : List UInt8))) = some r := H
    have A7 := Aside0.mk A70
    clear A70
    obtain rfl := Option.some.inj H
    go_enter Tryd.func29, Tryd.ntmps29
    go_wp2_with (first | (go_at_call 39; (with_reducible refine (strings_Contains.calls (⟨#[65, 66, 67, 68, 69, 70, 71, 72, 73, 74, 75, 76, 77, 78, 79, 80, 81, 82, 83, 84, 85, 86, 87, 88, 89, 90, 97, 98, 99, 100, 101, 102, 103, 104, 105, 106, 107, 108, 109, 110, 111, 112, 113, 114, 115, 116, 117, 118, 119, 120, 121, 122, 95]⟩ : ByteArray) y101 true _ A5.out (tabs_b HT.out (by repeat (first | (with_reducible first | exact HB.out | apply below_alloc | apply pw_below_drewN | apply below_drew1) | exact HB.out)))).mono ?_); rintro e w8 ⟨rfl, hb⟩; have n0_ := Aside0.mk (below_step (by repeat (first | (with_reducible first | exact HB.out | apply below_alloc | apply pw_below_drewN | apply below_drew1) | exact HB.out)) hb); clear HB; have HB := n0_; clear n0_; (try clear hb); (try clear hb2); (try clear hk); (try clear hi)) | (go_at_call 40; (with_reducible refine (strings_Trim.calls a0 (⟨#[65, 66, 67, 68, 69, 70, 71, 72, 73, 74, 75, 76, 77, 78, 79, 80, 81, 82, 83, 84, 85, 86, 87, 88, 89, 90, 97, 98, 99, 100, 101, 102, 103, 104, 105, 106, 107, 108, 109, 110, 111, 112, 113, 114, 115, 116, 117, 118, 119, 120, 121, 122, 95, 48, 49, 50, 51, 52, 53, 54, 55, 56, 57, 45, 46]⟩ : ByteArray) t103 _ A7.out).mono ?_); rintro e w9 ⟨rfl, hb⟩; have n0_ := Aside0.mk (below_step (by repeat (first | (with_reducible first | exact HB.out | apply below_alloc | apply pw_below_drewN | apply below_drew1) | exact HB.out)) hb); clear HB; have HB := n0_; clear n0_; (try clear hb); (try clear hb2); (try clear hk); (try clear hi)))
    go_ret
    exact ⟨by first | rfl | (simp only [nemp]; rfl) | (simp [errW_none, errW_some] <;> rfl) | (simp [*, errW_none, errW_some] <;> rfl), by repeat (first | (with_reducible first | exact HB.out | apply below_alloc | apply pw_below_drewN | apply below_drew1) | exact HB.out)⟩
   replace c6 := Bool.eq_false_iff.mpr c6
   subst c6
   have H1 : (some false) = some r := by rw [if_neg (show ¬ (false = true) by decide)] at H; exact H
   clear H
   have H := H1
   clear H1
   obtain rfl := Option.some.inj H
   go_enter Tryd.func29, Tryd.ntmps29
   go_wp2_with (first | (go_at_call 39; (with_reducible refine (strings_Contains.calls (⟨#[65, 66, 67, 68, 69, 70, 71, 72, 73, 74, 75, 76, 77, 78, 79, 80, 81, 82, 83, 84, 85, 86, 87, 88, 89, 90, 97, 98, 99, 100, 101, 102, 103, 104, 105, 106, 107, 108, 109, 110, 111, 112, 113, 114, 115, 116, 117, 118, 119, 120, 121, 122, 95]⟩ : ByteArray) y101 false _ A5.out (tabs_b HT.out (by repeat (first | (with_reducible first | exact HB.out | apply below_alloc | apply pw_below_drewN | apply below_drew1) | exact HB.out)))).mono ?_); rintro e w10 ⟨rfl, hb⟩; have n0_ := Aside0.mk (below_step (by repeat (first | (with_reducible first | exact HB.out | apply below_alloc | apply pw_below_drewN | apply below_drew1) | exact HB.out)) hb); clear HB; have HB := n0_; clear n0_; (try clear hb); (try clear hb2); (try clear hk); (try clear hi)))
   go_ret
   exact ⟨by first | rfl | (simp only [nemp]; rfl) | (simp [errW_none, errW_some] <;> rfl) | (simp [*, errW_none, errW_some] <;> rfl), by repeat (first | (with_reducible first | exact HB.out | apply below_alloc | apply pw_below_drewN | apply below_drew1) | exact HB.out)⟩
  rw [if_neg c4] at H
  exact absurd H (by simp)
 rw [if_neg c3] at H
 exact absurd H (by simp)
-- NOT PRINTED: function 54 (utf8_ValidString)
set_option maxHeartbeats 1000000 in
theorem slices_IndexFunc_rune_rune.hof (A0 : Option Addr) (c0 : Nat) (l0 : List Int) (F : Nat) (caps : Array Value) (g : Int → Bool) (w : World)
  (hr0 : Kd.C (Kd.int .i32) w A0 l0.length l0) (hl : l0.length ≤ 140737488351232) (hF : IsFn Tryd.prog F)
  (hg : ∀ (x : Int) (W : World), x ∈ l0 → Below w.heap.size w W → Calls Tryd.prog F (#[.int .i32 x] ++ caps) W fun e W' => e = .returned (.bool (g x)) ∧ Below W.heap.size W W') :
  Calls Tryd.prog 73 #[.slice A0 l0.length c0, .func (.func F) #[] caps] w fun e w' => e = .returned (.int .i64 (idxP g l0)) ∧ Below w.heap.size w w' := by
 have HB := Aside0.mk (Below.refl w.heap.size w)
 have HR := Aside0.mk hr0
 have HG := Aside0.mk hg
 clear hr0 hg
 go_enter Tryd.func73, Tryd.ntmps73
 go_wp2
 go_loopg [5, 8] (l0.length + 1) (fun gk v5 v8 wr => ∃ i : Nat, i ≤ l0.length ∧ v8 = .int .i64 i ∧ Aside0 (∀ j (hj : j < i) (hj' : j < l0.length), g (l0[j]'hj') = false) ∧ l0.length < gk + i ∧ Aside0 (Below w.heap.size w wr))
 case atStart => exact ⟨0, Nat.zero_le _, rfl, ⟨fun j hj => absurd hj (by omega)⟩, by omega, HB⟩
 case round =>
  clear HB
  obtain ⟨i, hi, rfl, HN, hk, HB⟩ := hrel
  by_cases hlt : i < l0.length
  ·obtain ⟨k', rfl⟩ : ∃ k', gk = k' + 1 := ⟨gk - 1, by omega⟩
   have hltz : (i : Int) < (l0.length : Int) := by omega
   obtain ⟨ad, e1, hx⟩ := Kd.at_int (Kd.C_below HR.out HB.out) (i : Int) (by omega) (by omega)
   cases e1
   rw [Int.toNat_natCast, rd_get l0 i hlt] at hx
   obtain ⟨x, hxx⟩ : ∃ x, l0[i] = x := ⟨_, rfl⟩
   rw [hxx] at hx
   have HX := Aside0.mk hxx
   clear hxx
   cases hgx : g x with
   | true =>
    have HGX := Aside0.mk hgx
    clear hgx
    go_wp2_with (first | ((with_reducible refine gate_value rfl ?_); refine goesV (some 16) rfl rfl rfl rfl hF #[.int .i32 x] (by simp only [List.map_toArray, List.map_cons, List.map_nil]; rfl) ?_; (with_reducible refine (HG.out x _ (mem_of_getElem HX.out) HB.out).mono ?_); rintro e w4 ⟨rfl, hb⟩; refine ⟨_, rfl, ?_⟩; have HB2 := Aside0.mk (below_step HB.out hb); clear HB hb; rw [HGX.out]))
    go_ret
    exact ⟨by rw [idxP_hit hlt (fun j hj => HN.out j hj _) (by rw [HX.out]; exact HGX.out)]; rfl, HB2.out⟩
   | false =>
    have HGX := Aside0.mk hgx
    clear hgx
    go_wp2_with (first | ((with_reducible refine gate_value rfl ?_); refine goesV (some 16) rfl rfl rfl rfl hF #[.int .i32 x] (by simp only [List.map_toArray, List.map_cons, List.map_nil]; rfl) ?_; (with_reducible refine (HG.out x _ (mem_of_getElem HX.out) HB.out).mono ?_); rintro e w4 ⟨rfl, hb⟩; refine ⟨_, rfl, ?_⟩; have HB2 := Aside0.mk (below_step HB.out hb); clear HB hb; rw [HGX.out]))
    go_roundg k'
    case measure => omega
    case rel => exact ⟨i + 1, by omega, by go_num, ⟨fun j hj hj' => by
     rcases Nat.lt_or_ge j i with h | h
     ·exact HN.out j h hj'
     obtain rfl : j = i := by omega
     rw [HX.out]; exact HGX.out⟩, by omega, HB2⟩
  have : i = l0.length := by omega
  subst this
  go_wp2
  go_ret
  exact ⟨by rw [idxP_none (fun j hj => HN.out j hj hj)]; rfl, HB.out⟩
theorem slices_ContainsFunc_rune_rune.hof (A0 : Option Addr) (c0 : Nat) (l0 : List Int) (F : Nat) (caps : Array Value) (g : Int → Bool) (w : World)
  (hr0 : Kd.C (Kd.int .i32) w A0 l0.length l0) (hl : l0.length ≤ 140737488351232) (hF : IsFn Tryd.prog F)
  (hg : ∀ (x : Int) (W : World), x ∈ l0 → Below w.heap.size w W → Calls Tryd.prog F (#[.int .i32 x] ++ caps) W fun e W' => e = .returned (.bool (g x)) ∧ Below W.heap.size W W') :
  Calls Tryd.prog 63 #[.slice A0 l0.length c0, .func (.func F) #[] caps] w fun e w' => e = .returned (.bool (l0.any g)) ∧ Below w.heap.size w w' := by
 have H := Aside0.mk (slices_IndexFunc_rune_rune.hof A0 c0 l0 F caps g w hr0 hl hF hg)
 clear hr0 hg hl
 go_enter Tryd.func63, Tryd.ntmps63
 go_wp2_with (go_at_call 73; (with_reducible refine H.out.mono ?_); rintro e w' ⟨rfl, hb⟩; have HB := Aside0.mk hb; clear hb H)
 go_ret
 exact ⟨by rw [← idxP_any]; rfl, HB.out⟩
theorem utf_each_rune_1.hof (x : Int) (b : Nat) (F : Nat) (caps : Array Value) (g : Int → Bool) (w : World) (hF : IsFn Tryd.prog F)
  (hc : w.cell? ⟨b, 0, none⟩ = some (.func (.func F) #[] caps))
  (hg : Calls Tryd.prog F (#[.int .i32 x] ++ caps) w fun e W' => e = .returned (.bool (g x)) ∧ Below w.heap.size w W') :
  Calls Tryd.prog 64 #[.int .i32 x, .pointer (some ⟨b, 0, none⟩)] w fun e w' => e = .returned (.bool (!g x)) ∧ Below w.heap.size w w' := by
 have HG := Aside0.mk hg
 clear hg
 go_enter Tryd.func64, Tryd.ntmps64
 go_wp2_with (first | ((with_reducible refine gate_value rfl ?_); refine goesV (some 6) rfl rfl rfl rfl hF #[.int .i32 x] (by simp only [List.map_toArray, List.map_cons, List.map_nil]; rfl) ?_; (with_reducible refine HG.out.mono ?_); rintro e w4 ⟨rfl, hb⟩; refine ⟨_, rfl, ?_⟩; have HB2 := Aside0.mk hb; clear hb HG))
 go_ret
 exact ⟨rfl, HB2.out⟩
theorem utf_each_rune.hof (A0 : Option Addr) (c0 : Nat) (l0 : List Int) (F : Nat) (caps : Array Value) (g : Int → Bool) (w : World)
  (hr0 : Kd.C (Kd.int .i32) w A0 l0.length l0) (hl : l0.length ≤ 140737488351232) (hF : IsFn Tryd.prog F)
  (hg : ∀ (x : Int) (W : World), x ∈ l0 → Below w.heap.size w W → Calls Tryd.prog F (#[.int .i32 x] ++ caps) W fun e W' => e = .returned (.bool (g x)) ∧ Below W.heap.size W W') :
  Calls Tryd.prog 55 #[.slice A0 l0.length c0, .func (.func F) #[] caps] w fun e w' => e = .returned (.bool (l0.all g)) ∧ Below w.heap.size w w' := by
 have HR := Aside0.mk hr0
 have HG := Aside0.mk hg
 clear hr0 hg
 have hF1 : IsFn Tryd.prog 64 := ⟨⟨_, Tryd.func64, by kernel_rfl, rfl⟩⟩
 go_enter Tryd.func55, Tryd.ntmps55
 go_wp2_with (go_at_call 63; go_must (refine (slices_ContainsFunc_rune_rune.hof A0 c0 l0 64 #[.pointer (some ⟨w.heap.size, 0, none⟩)] (fun x => !g x) _ (Kd.C_below HR.out (below_alloc (Below.refl _ _) _)) hl hF1 (fun x W hx hb => utf_each_rune_1.hof x _ F caps g W hF (box_cell hb) (HG.out x W hx (below_a hb)))).mono ?_); rintro e w' ⟨rfl, hb⟩; have HB := Aside0.mk (below_a hb); clear hb HG HR)
 go_ret
 exact ⟨by rw [show l0.all g = !(l0.any fun x => !g x) from by rw [List.all_eq_not_any_not]]; rfl, HB.out⟩
set_option maxRecDepth 100000 in
theorem utf_text.hof (s : ByteArray) (F : Nat) (caps : Array Value) (g : Int → Bool) (w : World) (hs : s.size ≤ 70368744177664) (hT : Tabs w) (hF : IsFn Tryd.prog F)
  (hg : ∀ (x : Int) (W : World), x ∈ runesI s → Below w.heap.size w W → Calls Tryd.prog F (#[.int .i32 x] ++ caps) W fun e W' => e = .returned (.bool (g x)) ∧ Below W.heap.size W W') :
  Calls Tryd.prog 41 #[.string s, .func (.func F) #[] caps] w fun e w' => e = .returned (.bool (validD s.data.toList && (runesI s).all g)) ∧ Below w.heap.size w w' := by
 have HG := Aside0.mk hg
 have HV := Aside0.mk (Tryd.utf8_ValidString s w (by omega) hT.1)
 have HS := Aside0.mk hs
 clear hg hT hs
 cases hv : validD s.data.toList with
 | false =>
  rw [hv] at HV
  clear hv
  go_enter Tryd.func41, Tryd.ntmps41
  go_wp2_with (go_at_call 54; (with_reducible refine HV.out.mono ?_); rintro e w' ⟨rfl, hb⟩; have HB := Aside0.mk hb; clear hb HV)
  go_ret
  exact ⟨rfl, HB.out⟩
 | true =>
  rw [hv] at HV
  clear hv
  have kc := fun W : World => run_runesI (P := Tryd.prog) W 9 92 21 s Tryd.underlying9 Tryd.underlying92 Tryd.underlying21 HS.out
  go_enter Tryd.func41, Tryd.ntmps41
  go_wp2_with (first | (go_at_call 54; (with_reducible refine HV.out.mono ?_); rintro e w1 ⟨rfl, hb⟩; have HB := Aside0.mk hb; clear hb HV) | (go_at_call 55; go_must (refine (utf_each_rune.hof _ _ (runesI s) F caps g _ (runes_C HS.out (below_drew (Below.refl _ _))) (by have := runesI_len s; have := HS.out; omega) hF (fun x W hx hb => HG.out x W hx (below2 (below_drew (below_alloc HB.out _)) hb))).mono ?_); rintro e w2 ⟨rfl, hb⟩; have HB2 := Aside0.mk (below2 (below_drew (below_alloc HB.out _)) hb); clear hb HB HG))
  go_ret
  exact ⟨rfl, HB2.out⟩
def utf_span_rune_has.f (a0_0 : Int) (a0_1 : Int) (a1 : Int) : Option (Bool) := if a1 ≥ a0_0 then (some (decide (a1 ≤ a0_1))) else (some false)
set_option maxHeartbeats 8000000 in
set_option maxRecDepth 100000 in
theorem utf_span_rune_has.calls (a0_0 : Int) (a0_1 : Int) (a1 : Int) (r : Bool) (w : World) (h : utf_span_rune_has.f a0_0 a0_1 a1 = some r) :
  Calls Tryd.prog 65 #[.agg #[.int .i32 a0_0, .int .i32 a0_1], .int .i32 a1] w fun e w' => e = .returned (.bool r) ∧ Below w.heap.size w w' := by
 have hu102 := Tryd.underlying102
 have HB := Aside0.mk (Below.refl w.heap.size w)
 have H : (if a1 ≥ a0_0 then (some (decide (a1 ≤ a0_1))) else (some false)) = some r := h
 clear h
 by_cases c3 : a1 ≥ a0_0
 ·rw [if_pos c3] at H
  have c3b0 : decide (a0_0 ≤ a1) = true := decide_eq_true c3
  clear c3
  obtain rfl := Option.some.inj H
  go_enter Tryd.func65, Tryd.ntmps65
  go_wp2_with (first | ((with_reducible refine gate_dst (N := 2) rfl ?_); refine box_event ?hg (N := 2) ?hd (cs := #[.int .i32 a0_0, .int .i32 a0_1]) (t := 102) ?hr ?_; (case hd => rfl); (case hg => rfl); (case hr => first | (go_simp; done) | (go_simp; rfl)); intro gb111 hg w4 hbox hb; have n0_ := Aside0.mk (below_step (by repeat (first | (with_reducible first | exact HB.out | apply below_alloc | apply pw_below_drewN | apply below_drew1) | exact HB.out)) hb); have n1_ := Aside0.mk (hbox); have n2_ := Aside0.mk ((by rw [hg]; exact (below_size (by repeat (first | (with_reducible first | exact HB.out | apply below_alloc | apply pw_below_drewN | apply below_drew1) | exact HB.out))) : w.heap.size ≤ gb111)); have n3_ := Aside0.mk ((by rw [hg]; exact (below_size (by repeat (first | (with_reducible first | exact HB.out | apply below_alloc | apply pw_below_drewN | apply below_drew1) | exact HB.out))) : w.heap.size ≤ gb111)); clear HB; have HB := n0_; have BK111 := n1_; have GW111 := n2_; have GE111 := n3_; clear n0_ n1_ n2_ n3_; clear hb hbox hg; have hcz5_0 : w4.cell? ⟨gb111, 0, none⟩ = some (.int .i32 a0_0) := (blk_cell BK111.out 0).trans rfl; have hcz5_1 : w4.cell? ⟨gb111, 1, none⟩ = some (.int .i32 a0_1) := (blk_cell BK111.out 1).trans rfl; have hfz5_0 := blk_frozen BK111.out 0; have hfz5_1 := blk_frozen BK111.out 1))
  go_ret
  exact ⟨by first | rfl | (simp only [nemp]; rfl) | (simp [errW_none, errW_some] <;> rfl) | (simp [*, errW_none, errW_some] <;> rfl), by repeat (first | (with_reducible first | exact HB.out | apply below_alloc | apply pw_below_drewN | apply below_drew1 | refine below_set ?_ GE111.out) | exact HB.out)⟩
 rw [if_neg c3] at H
 have c3b0 : decide (a0_0 ≤ a1) = false := decide_eq_false c3
 clear c3
 obtain rfl := Option.some.inj H
 go_enter Tryd.func65, Tryd.ntmps65
 go_wp2_with (first | ((with_reducible refine gate_dst (N := 2) rfl ?_); refine box_event ?hg (N := 2) ?hd (cs := #[.int .i32 a0_0, .int .i32 a0_1]) (t := 102) ?hr ?_; (case hd => rfl); (case hg => rfl); (case hr => first | (go_simp; done) | (go_simp; rfl)); intro gb111 hg w6 hbox hb; have n0_ := Aside0.mk (below_step (by repeat (first | (with_reducible first | exact HB.out | apply below_alloc | apply pw_below_drewN | apply below_drew1) | exact HB.out)) hb); have n1_ := Aside0.mk (hbox); have n2_ := Aside0.mk ((by rw [hg]; exact (below_size (by repeat (first | (with_reducible first | exact HB.out | apply below_alloc | apply pw_below_drewN | apply below_drew1) | exact HB.out))) : w.heap.size ≤ gb111)); have n3_ := Aside0.mk ((by rw [hg]; exact (below_size (by repeat (first | (with_reducible first | exact HB.out | apply below_alloc | apply pw_below_drewN | apply below_drew1) | exact HB.out))) : w.heap.size ≤ gb111)); clear HB; have HB := n0_; have BK111 := n1_; have GW111 := n2_; have GE111 := n3_; clear n0_ n1_ n2_ n3_; clear hb hbox hg; have hcz7_0 : w6.cell? ⟨gb111, 0, none⟩ = some (.int .i32 a0_0) := (blk_cell BK111.out 0).trans rfl; have hcz7_1 : w6.cell? ⟨gb111, 1, none⟩ = some (.int .i32 a0_1) := (blk_cell BK111.out 1).trans rfl; have hfz7_0 := blk_frozen BK111.out 0; have hfz7_1 := blk_frozen BK111.out 1))
 go_ret
 exact ⟨by first | rfl | (simp only [nemp]; rfl) | (simp [errW_none, errW_some] <;> rfl) | (simp [*, errW_none, errW_some] <;> rfl), by repeat (first | (with_reducible first | exact HB.out | apply below_alloc | apply pw_below_drewN | apply below_drew1 | refine below_set ?_ GE111.out) | exact HB.out)⟩
def utf_shown.f (a0 : Int) : Option (Bool) := (utf_span_rune_has.f 32 65533 a0).bind fun t112 => (if t112 = true then (some true) else ((utf_span_rune_has.f 65536 1114111 a0).bind fun t113 => (some t113)))
set_option maxHeartbeats 8000000 in
set_option maxRecDepth 100000 in
theorem utf_shown.calls (a0 : Int) (r : Bool) (w : World) (h : utf_shown.f a0 = some r) :
  Calls Tryd.prog 56 #[.int .i32 a0] w fun e w' => e = .returned (.bool r) ∧ Below w.heap.size w w' := by
 have hu102 := Tryd.underlying102
 have HB := Aside0.mk (Below.refl w.heap.size w)
 have H : ((utf_span_rune_has.f 32 65533 a0).bind fun t112 => (if t112 = true then (some true) else ((utf_span_rune_has.f 65536 1114111 a0).bind fun t113 => (some t113)))) = some r := h
 clear h
 replace H := Option.bind_eq_some_iff.mp H
 obtain ⟨t112, A20, H⟩ := H
 replace H : (if t112 = true then (some true) else ((utf_span_rune_has.f 65536 1114111 a0).bind fun t113 => (some t113))) = some r := H
 have A2 := Aside0.mk A20
 clear A20
 by_cases c3 : t112 = true
 ·subst c3
  have H1 : (some true) = some r := by rw [if_pos rfl] at H; exact H
  clear H
  have H := H1
  clear H1
  obtain rfl := Option.some.inj H
  go_enter Tryd.func56, Tryd.ntmps56
  go_wp2_with (first | ((with_reducible refine gate_callee (f := 65) rfl ?_); refine goesL_ (some 5) rfl rfl Tryd.func65 (by kernel_rfl) rfl #[.agg #[.int .i32 32, .int .i32 65533], .int .i32 a0] rfl (by (try simp only [List.map_toArray, List.map_cons, List.map_nil]); first | done | rfl | (simp only [List.length_drop, List.length_take]; rfl)) ?_; (with_reducible refine (utf_span_rune_has.calls 32 65533 a0 true _ A2.out).mono ?_); rintro e w4 ⟨rfl, hb⟩; refine ⟨_, rfl, ?_⟩; have n0_ := Aside0.mk (below_step (by repeat (first | (with_reducible first | exact HB.out | apply below_alloc | apply pw_below_drewN | apply below_drew1) | exact HB.out)) hb); clear HB; have HB := n0_; clear n0_; (try clear hb); (try clear hb2); (try clear hk); (try clear hi)))
  go_ret
  exact ⟨by first | rfl | (simp only [nemp]; rfl) | (simp [errW_none, errW_some] <;> rfl) | (simp [*, errW_none, errW_some] <;> rfl), by repeat (first | (with_reducible first | exact HB.out | apply below_alloc | apply pw_below_drewN | apply below_drew1) | exact HB.out)⟩
 replace c3 := Bool.eq_false_iff.mpr c3
 subst c3
 have H1 : ((utf_span_rune_has.f 65536 1114111 a0).bind fun t113 => (some t113)) = some r := by rw [if_neg (show ¬ (false = true) by decide)] at H; exact H
 clear H
 have H := H1
 clear H1
 replace H := Option.bind_eq_some_iff.mp H
 obtain ⟨t113, A50, H⟩ := H
 replace H : (some t113) = some r := H
 have A5 := Aside0.mk A50
 clear A50
 obtain rfl := Option.some.inj H
 go_enter Tryd.func56, Tryd.ntmps56
 go_wp2_with (first | ((with_reducible refine gate_callee (f := 65) rfl ?_); refine goesL_ (some 5) rfl rfl Tryd.func65 (by kernel_rfl) rfl #[.agg #[.int .i32 32, .int .i32 65533], .int .i32 a0] rfl (by (try simp only [List.map_toArray, List.map_cons, List.map_nil]); first | done | rfl | (simp only [List.length_drop, List.length_take]; rfl)) ?_; (with_reducible refine (utf_span_rune_has.calls 32 65533 a0 false _ A2.out).mono ?_); rintro e w6 ⟨rfl, hb⟩; refine ⟨_, rfl, ?_⟩; have n0_ := Aside0.mk (below_step (by repeat (first | (with_reducible first | exact HB.out | apply below_alloc | apply pw_below_drewN | apply below_drew1) | exact HB.out)) hb); clear HB; have HB := n0_; clear n0_; (try clear hb); (try clear hb2); (try clear hk); (try clear hi)) | (go_at_call 65; (with_reducible refine (utf_span_rune_has.calls 65536 1114111 a0 t113 _ A5.out).mono ?_); rintro e w7 ⟨rfl, hb⟩; have n0_ := Aside0.mk (below_step (by repeat (first | (with_reducible first | exact HB.out | apply below_alloc | apply pw_below_drewN | apply below_drew1) | exact HB.out)) hb); clear HB; have HB := n0_; clear n0_; (try clear hb); (try clear hb2); (try clear hk); (try clear hi)))
 go_ret
 exact ⟨by first | rfl | (simp only [nemp]; rfl) | (simp [errW_none, errW_some] <;> rfl) | (simp [*, errW_none, errW_some] <;> rfl), by repeat (first | (with_reducible first | exact HB.out | apply below_alloc | apply pw_below_drewN | apply below_drew1) | exact HB.out)⟩
def utf_may.f (a0 : Int) : Option (Bool) := if a0 = 9 then (some true) else (if a0 = 10 then (some true) else (if a0 = 13 then (some true) else ((utf_shown.f a0).bind fun t114 => (some t114))))
set_option maxHeartbeats 8000000 in
set_option maxRecDepth 100000 in
theorem utf_may.calls (a0 : Int) (r : Bool) (w : World) (h : utf_may.f a0 = some r) :
  Calls Tryd.prog 42 #[.int .i32 a0] w fun e w' => e = .returned (.bool r) ∧ Below w.heap.size w w' := by
 have HB := Aside0.mk (Below.refl w.heap.size w)
 have H : (if a0 = 9 then (some true) else (if a0 = 10 then (some true) else (if a0 = 13 then (some true) else ((utf_shown.f a0).bind fun t114 => (some t114))))) = some r := h
 clear h
 by_cases c2 : a0 = 9
 ·rw [if_pos c2] at H
  have c2b0 : (a0 == 9) = true := beq_iff_eq.mpr c2
  have c2b1 : (a0 != 9) = false := bne_eq_false_iff_eq.mpr c2
  clear c2
  obtain rfl := Option.some.inj H
  go_enter Tryd.func42, Tryd.ntmps42
  go_wp2
  go_ret
  exact ⟨by first | rfl | (simp only [nemp]; rfl) | (simp [errW_none, errW_some] <;> rfl) | (simp [*, errW_none, errW_some] <;> rfl), by repeat (first | (with_reducible first | exact HB.out | apply below_alloc | apply pw_below_drewN | apply below_drew1) | exact HB.out)⟩
 rw [if_neg c2] at H
 have c2b0 : (a0 == 9) = false := beq_eq_false_iff_ne.mpr c2
 have c2b1 : (a0 != 9) = true := bne_iff_ne.mpr c2
 by_cases c3 : a0 = 10
 ·rw [if_pos c3] at H
  have c3b0 : (a0 == 10) = true := beq_iff_eq.mpr c3
  have c3b1 : (a0 != 10) = false := bne_eq_false_iff_eq.mpr c3
  clear c3
  obtain rfl := Option.some.inj H
  go_enter Tryd.func42, Tryd.ntmps42
  go_wp2
  go_ret
  exact ⟨by first | rfl | (simp only [nemp]; rfl) | (simp [errW_none, errW_some] <;> rfl) | (simp [*, errW_none, errW_some] <;> rfl), by repeat (first | (with_reducible first | exact HB.out | apply below_alloc | apply pw_below_drewN | apply below_drew1) | exact HB.out)⟩
 rw [if_neg c3] at H
 have c3b0 : (a0 == 10) = false := beq_eq_false_iff_ne.mpr c3
 have c3b1 : (a0 != 10) = true := bne_iff_ne.mpr c3
 by_cases c4 : a0 = 13
 ·rw [if_pos c4] at H
  have c4b0 : (a0 == 13) = true := beq_iff_eq.mpr c4
  have c4b1 : (a0 != 13) = false := bne_eq_false_iff_eq.mpr c4
  clear c4
  obtain rfl := Option.some.inj H
  go_enter Tryd.func42, Tryd.ntmps42
  go_wp2
  go_ret
  exact ⟨by first | rfl | (simp only [nemp]; rfl) | (simp [errW_none, errW_some] <;> rfl) | (simp [*, errW_none, errW_some] <;> rfl), by repeat (first | (with_reducible first | exact HB.out | apply below_alloc | apply pw_below_drewN | apply below_drew1) | exact HB.out)⟩
 rw [if_neg c4] at H
 have c4b0 : (a0 == 13) = false := beq_eq_false_iff_ne.mpr c4
 have c4b1 : (a0 != 13) = true := bne_iff_ne.mpr c4
 replace H := Option.bind_eq_some_iff.mp H
 obtain ⟨t114, A50, H⟩ := H
 replace H : (some t114) = some r := H
 have A5 := Aside0.mk A50
 clear A50
 obtain rfl := Option.some.inj H
 go_enter Tryd.func42, Tryd.ntmps42
 go_wp2_with (first | (go_at_call 56; (with_reducible refine (utf_shown.calls a0 t114 _ A5.out).mono ?_); rintro e w6 ⟨rfl, hb⟩; have n0_ := Aside0.mk (below_step (by repeat (first | (with_reducible first | exact HB.out | apply below_alloc | apply pw_below_drewN | apply below_drew1) | exact HB.out)) hb); clear HB; have HB := n0_; clear n0_; (try clear hb); (try clear hb2); (try clear hk); (try clear hi)))
 go_ret
 exact ⟨by first | rfl | (simp only [nemp]; rfl) | (simp [errW_none, errW_some] <;> rfl) | (simp [*, errW_none, errW_some] <;> rfl), by repeat (first | (with_reducible first | exact HB.out | apply below_alloc | apply pw_below_drewN | apply below_drew1) | exact HB.out)⟩
def utf_Valid.f (a0 : ByteArray) : Option Bool := if a0.size ≤ 17592186044415 then some (validT a0) else none
theorem may_eq (x : Int) : utf_may.f x = some (mayB x) := by
 unfold utf_may.f utf_shown.f utf_span_rune_has.f mayB
 by_cases h1 : x = 9
 ·simp [h1]
 by_cases h2 : x = 10
 ·simp [h2]
 by_cases h3 : x = 13
 ·simp [h3]
 by_cases h4 : x ≥ 32 <;> by_cases h5 : x ≤ 65533 <;> by_cases h6 : x ≥ 65536 <;> by_cases h7 : x ≤ 1114111 <;> simp [*]
theorem utf_Valid.calls (a0 : ByteArray) (r : Bool) (w : World) (h : utf_Valid.f a0 = some r) (hT : Tabs w) :
  Calls Tryd.prog 30 #[.string a0] w fun e w' => e = .returned (.bool r) ∧ Below w.heap.size w w' := by
 unfold utf_Valid.f at h
 split at h
 ·rename_i hs
  obtain rfl := Option.some.inj h
  have hF : IsFn Tryd.prog 42 := ⟨⟨_, Tryd.func42, by kernel_rfl, rfl⟩⟩
  have H := Aside0.mk (utf_text.hof a0 42 #[] mayB w (by omega) hT hF (fun x W _ _ => utf_may.calls x _ W (may_eq x)))
  clear h hT hs
  go_enter Tryd.func30, Tryd.ntmps30
  go_wp2_with (go_at_call 41; (with_reducible refine H.out.mono ?_); rintro e w' ⟨rfl, hb⟩; have HB := Aside0.mk hb; clear hb H)
  go_ret
  exact ⟨rfl, HB.out⟩
 cases h
def inS (x : ByteArray) (S : List ByteArray) : Bool := S.any fun s => s.toList == x.toList
theorem inS_iff {x : ByteArray} {S : List ByteArray} : inS x S = true ↔ x ∈ S := by
 unfold inS
 rw [List.any_eq_true]
 constructor
 ·rintro ⟨s, hs, e⟩
  have e := eq_of_beq e
  rw [ByteArray.toList_eq, ByteArray.toList_eq] at e
  have : s = x := by
   cases s; cases x
   simp only at e
   rw [Array.toList_inj] at e
   rw [e]
  exact this ▸ hs
 intro h
 exact ⟨x, h, beq_self_eq_true _⟩
def Ms (w : World) (b : Nat) (S : List ByteArray) : Prop := ∃ (es : Array MapEntry) (clock : Nat), w.heap[b]? = some (.map es clock) ∧ (∀ e ∈ es.toList, ∃ s, s ∈ S ∧ e.key = .string s ∧ e.val = .int .i64 1 ∧ s.size ≤ 140737488355327) ∧ (∀ s ∈ S, ∃ e ∈ es.toList, e.key = .string s) ∧ es.toList.Pairwise (fun a b => a.key ≠ b.key)
theorem Ms.below {w w' : World} {b : Nat} {S : List ByteArray} (h : Ms w b S) (hb : Below w.heap.size w w') : Ms w' b S := by
 obtain ⟨es, clock, h1, h2⟩ := h
 exact ⟨es, clock, (hb.block b (Array.getElem?_eq_some_iff.1 h1).1).trans h1, h2⟩
theorem Ms.lt {w : World} {b : Nat} {S : List ByteArray} (h : Ms w b S) : b < w.heap.size := by
 obtain ⟨es, clock, h1, _⟩ := h
 exact (Array.getElem?_eq_some_iff.1 h1).1
theorem Ms.new (w : World) : Ms (w.alloc (.map #[] 0)) w.heap.size [] := ⟨#[], 0, heap_alloc_new w _, fun e he => by simp at he, fun p hp => by simp at hp, .nil⟩
theorem key_str (x : ByteArray) (h : x.size ≤ 140737488355327) : keyOf Tryd.prog 9 (.string x) = some (.string x.data.toList) := by
 simp [keyOf, mapKey, Tryd.underlying9]
 unfold maxLen; omega
theorem str_law : Maps.Keyed Tryd.prog 9 := Maps.string_keyed Tryd.underlying9
theorem Ms.look {w : World} {b : Nat} {S : List ByteArray} (h : Ms w b S) (x : ByteArray) (hxs : x.size ≤ 140737488355327) : (Instr.lookup 77 (.map (some b)) (.string x) false).run Tryd.prog w = .ok (.int .i64 (if inS x S = true then 1 else 0)) w := by
 obtain ⟨es, clock, hb, h2, h3, h5⟩ := h
 have hz : (zeroValue 3).run Tryd.prog w = .ok (.int .i64 0) w := (zero_of_info (show (Tryd.prog.info? 3).map (fun i => (i.zero, i.size)) = some (some (.int .i64 0), 1) by kernel_rfl)).1 w
 have hkeys : ∀ e ∈ es.toList, ∃ l, keyOf Tryd.prog 9 e.key = some l := fun e he => by
  obtain ⟨s, _, hk, _, hz⟩ := h2 e he
  exact ⟨_, by rw [hk]; exact key_str s hz⟩
 rcases str_law.find w (key_str x hxs) es.toList hkeys with ⟨h1, hn⟩ | ⟨j, e0, h1, hj, h4⟩
 ·have hx : x ∉ S := fun hx => by
   obtain ⟨e, he, hk⟩ := h3 x hx
   exact hn e he hk
  rw [if_neg (fun h => hx (inS_iff.1 h))]
  simp [Instr.lookup, run_underlying Tryd.underlying77, MapKept.run_getObj_map hb, str_law.check w _ (key_str x hxs), h1, hz, Result.andThen]
 obtain ⟨s, hs, hk, hv, _⟩ := h2 e0 (List.mem_of_getElem? hj)
 have hx : x ∈ S := by
  rw [hk] at h4
  injection h4 with h4
  exact h4 ▸ hs
 rw [if_pos (inS_iff.2 hx)]
 simp [Instr.lookup, run_underlying Tryd.underlying77, MapKept.run_getObj_map hb, str_law.check w _ (key_str x hxs), h1, Result.andThen, hv]
theorem Ms.upd {w : World} {b : Nat} {S : List ByteArray} (h : Ms w b S) (x : ByteArray) (hxs : x.size ≤ 140737488355327) (n : Int) :
  ∃ w', (Instr.mapUpdate 77 (.map (some b)) (.string x) (.int .i64 n)).run Tryd.prog w = .ok () w' ∧ (Instr.lookup 77 (.map (some b)) (.string x) false).run Tryd.prog w' = .ok (.int .i64 n) w' ∧ (x ∉ S → n = 1 → Ms w' b (x :: S)) ∧ (∀ B w0, B ≤ b → Below B w0 w → Below B w0 w') ∧ w'.heap.size = w.heap.size ∧ ∀ j, j ≠ b → w'.heap[j]? = w.heap[j]? := by
 obtain ⟨es, clock, hb, h2, h3, h5⟩ := h
 have hlt := (Array.getElem?_eq_some_iff.1 hb).1
 have hkeys : ∀ e ∈ es.toList, ∃ l, keyOf Tryd.prog 9 e.key = some l := fun e he => by
  obtain ⟨s, _, hk, _, hz⟩ := h2 e he
  exact ⟨_, by rw [hk]; exact key_str s hz⟩
 have look : ∀ (w' : World) (es' : Array MapEntry) (c : Nat), w'.heap[b]? = some (.map es' c) → (∀ e ∈ es'.toList, ∃ s, e.key = .string s ∧ s.size ≤ 140737488355327) → (∃ e ∈ es'.toList, e.key = .string x) → (∀ e ∈ es'.toList, e.key = .string x → e.val = .int .i64 n) → (Instr.lookup 77 (.map (some b)) (.string x) false).run Tryd.prog w' = .ok (.int .i64 n) w' := by
  intro w' es' c hb' hk' hx' hv'
  rcases str_law.find w' (key_str x hxs) es'.toList (fun e he => by obtain ⟨s, hs, hz⟩ := hk' e he; exact ⟨_, by rw [hs]; exact key_str s hz⟩) with ⟨h1, hn⟩ | ⟨j, e0, h1, hj, h4⟩
  ·obtain ⟨e, he, hk⟩ := hx'
   exact absurd hk (hn e he)
  have hv := hv' e0 (List.mem_of_getElem? hj) h4
  simp [Instr.lookup, run_underlying Tryd.underlying77, MapKept.run_getObj_map hb', str_law.check w' _ (key_str x hxs), h1, Result.andThen, hv]
 have rest : ∀ o : Obj, (∀ B w0, B ≤ b → Below B w0 w → Below B w0 { w with heap := w.heap.setIfInBounds b o }) ∧ (∀ j, j ≠ b → (w.heap.setIfInBounds b o)[j]? = w.heap[j]?) := fun o => by
  refine ⟨fun B w0 hB h => ⟨h.os, h.tape, h.output, by simpa using h.size, fun i hi => ?_⟩, fun j hj => ?_⟩
  ·have hne : b ≠ i := by omega
   rw [← h.block i hi]
   simp [hne]
  have hne : b ≠ j := fun h => hj h.symm
  simp [hne]
 rcases str_law.find w (key_str x hxs) es.toList hkeys with ⟨h1, hn⟩ | ⟨j, e0, h1, hj, h4⟩
 ·have hb' : ({ w with heap := w.heap.setIfInBounds b (.map (es.push ⟨.string x, .int .i64 n, clock⟩) (clock + 1)) } : World).heap[b]? = some (.map (es.push ⟨.string x, .int .i64 n, clock⟩) (clock + 1)) := by simp [hlt]
  refine ⟨{ w with heap := w.heap.setIfInBounds b (.map (es.push ⟨.string x, .int .i64 n, clock⟩) (clock + 1)) }, ?_, look _ _ _ hb' ?_ ?_ ?_, fun hx hn1 => ⟨_, _, hb', ?_, ?_, ?_⟩, (rest _).1, by simp, (rest _).2⟩
  ·simp [Instr.mapUpdate, run_underlying Tryd.underlying77, MapKept.run_getObj_map hb, str_law.check w false (key_str x hxs), h1, MapKept.run_setObj_map _ hb, Result.andThen]
  ·intro e he
   rw [Array.toList_push, List.mem_append, List.mem_singleton] at he
   rcases he with he | rfl
   ·obtain ⟨s, _, hk, _, hz⟩ := h2 e he; exact ⟨s, hk, hz⟩
   exact ⟨x, rfl, hxs⟩
  ·exact ⟨_, by rw [Array.toList_push]; exact List.mem_append_right _ (.head _), rfl⟩
  ·intro e he hk
   rw [Array.toList_push, List.mem_append, List.mem_singleton] at he
   rcases he with he | rfl
   ·exact absurd hk (hn e he)
   rfl
  ·intro e he
   rw [Array.toList_push, List.mem_append, List.mem_singleton] at he
   rcases he with he | rfl
   ·obtain ⟨s, hs, hk⟩ := h2 e he; exact ⟨s, .tail _ hs, hk⟩
   exact ⟨x, .head _, rfl, by rw [hn1], hxs⟩
  ·intro s hs
   rw [Array.toList_push]
   rcases List.mem_cons.1 hs with rfl | hs
   ·exact ⟨_, List.mem_append_right _ (.head _), rfl⟩
   obtain ⟨e, he, hk⟩ := h3 s hs; exact ⟨e, List.mem_append_left _ he, hk⟩
  rw [Array.toList_push, List.pairwise_append]
  exact ⟨h5, List.pairwise_singleton _ _, fun a ha c hc => by rw [List.mem_singleton] at hc; rw [hc]; exact hn a ha⟩
 have hje : es[j]? = some e0 := by simpa using hj
 have hlist : (es.modify j (fun e' => { e' with key := .string x, val := .int .i64 n })).toList = es.toList.set j { e0 with key := .string x, val := .int .i64 n } := by rw [Array.toList_modify, Go.ChangeMaps.modify_eq_set _ _ _ _ hj]
 have hb' : ({ w with heap := w.heap.setIfInBounds b (.map (es.modify j (fun e' => { e' with key := .string x, val := .int .i64 n })) clock) } : World).heap[b]? = some (.map (es.modify j (fun e' => { e' with key := .string x, val := .int .i64 n })) clock) := by simp [hlt]
 obtain ⟨s0, hs0, hk0, _⟩ := h2 e0 (List.mem_of_getElem? hj)
 refine ⟨{ w with heap := w.heap.setIfInBounds b (.map (es.modify j (fun e' => { e' with key := .string x, val := .int .i64 n })) clock) }, ?_, look _ _ _ hb' ?_ ?_ ?_, fun hx _ => ?_, (rest _).1, by simp, (rest _).2⟩
 ·have hst := str_law.stays w (key_str x hxs)
  simp [Instr.mapUpdate, run_underlying Tryd.underlying77, MapKept.run_getObj_map hb, str_law.check w false (key_str x hxs), h1, MapKept.run_setObj_map _ hb, Result.andThen, hje, h4, hst]
 ·intro e he
  rw [hlist] at he
  rcases List.mem_or_eq_of_mem_set he with he | rfl
  ·obtain ⟨s, _, hk, _, hz⟩ := h2 e he; exact ⟨s, hk, hz⟩
  exact ⟨x, rfl, hxs⟩
 ·exact ⟨{ e0 with key := .string x, val := .int .i64 n }, by rw [hlist]; exact List.mem_set (List.getElem?_eq_some_iff.1 hj).1 _, rfl⟩
 ·intro e he hk
  rw [hlist] at he
  obtain ⟨i, hi, rfl⟩ := List.getElem_of_mem he
  by_cases hij : j = i
  ·subst hij; simp
  rw [List.getElem_set_ne hij] at hk
  have hi' : i < es.toList.length := by simpa using hi
  obtain ⟨hjl, hje2⟩ := List.getElem?_eq_some_iff.1 hj
  rcases Nat.lt_or_gt_of_ne hij with hl | hl
  ·exact absurd (by rw [hje2, hk]; exact h4) (List.pairwise_iff_getElem.1 h5 j i hjl hi' hl)
  exact absurd (by rw [hje2, hk]; exact h4.symm) (List.pairwise_iff_getElem.1 h5 i j hi' hjl hl)
 rw [hk0] at h4
 injection h4 with h4
 exact absurd (h4 ▸ hs0) hx
set_option maxHeartbeats 4000000 in
set_option maxRecDepth 100000 in
theorem canon_twice_string.hof (b : Nat) (x : ByteArray) (S : List ByteArray) (w : World) (hM : Ms w b S) (hxs : x.size ≤ 140737488355327) :
  Calls Tryd.prog 43 #[.agg #[.map (some b)], .string x] w fun e w' => e = .returned (.bool (inS x S)) ∧ (inS x S = false → Ms w' b (x :: S)) ∧ (∀ B, B ≤ b → Below B w w') ∧ ∀ k, k < w.heap.size → k ≠ b → w'.heap[k]? = w.heap[k]? := by
 have hu := Tryd.underlying79
 have HM := Aside0.mk hM
 have HX := Aside0.mk hxs
 have HBb := Aside0.mk hM.lt
 clear hM hxs
 go_enter Tryd.func43, Tryd.ntmps43
 cases hi : inS x S with
 | true =>
  go_wp2_with (first | ((with_reducible refine gate_dst (N := 2) rfl ?_); refine box_event ?hg (N := 2) ?hd (cs := #[.map (some b)]) (t := 79) ?hr ?_; (case hd => rfl); (case hg => rfl); (case hr => first | (go_simp; done) | (go_simp; rfl)); intro ga hga w1 hbox1 hb1; have HA := Aside0.mk hbox1; have HB1 := Aside0.mk hb1; have HG := Aside0.mk hga; have HM1 := Aside0.mk (HM.out.below hb1); have hc0 : w1.cell? ⟨ga, 0, none⟩ = some (.map (some b)) := (blk_cell HA.out 0).trans rfl; have hl1 := HM1.out.look x HX.out; rw [if_pos hi] at hl1; obtain ⟨w2, hr2, hl2, _, hB2, hs2, hk2⟩ := HM1.out.upd x HX.out 2; have hne : ga ≠ b := (by have := HG.out; have := HBb.out; omega); have hc2 : w2.cell? ⟨ga, 0, none⟩ = some (.map (some b)) := (blk_cell ((hk2 ga hne).trans HA.out) 0).trans rfl; have HB2 := Aside0.mk hB2; have HS2 := Aside0.mk hs2; have HK2 := Aside0.mk hk2; clear hga hbox1 hb1 hB2 hs2 hk2 hne))
  go_ret
  exact ⟨rfl, (fun h => by cases h), fun B hB => HB2.out B w hB (HB1.out.mono (by have := HBb.out; omega)), fun k hk hne => (HK2.out k hne).trans (HB1.out.block k hk)⟩
 | false =>
  go_wp2_with (first | ((with_reducible refine gate_dst (N := 2) rfl ?_); refine box_event ?hg (N := 2) ?hd (cs := #[.map (some b)]) (t := 79) ?hr ?_; (case hd => rfl); (case hg => rfl); (case hr => first | (go_simp; done) | (go_simp; rfl)); intro ga hga w1 hbox1 hb1; have HA := Aside0.mk hbox1; have HB1 := Aside0.mk hb1; have HG := Aside0.mk hga; have HM1 := Aside0.mk (HM.out.below hb1); have hc0 : w1.cell? ⟨ga, 0, none⟩ = some (.map (some b)) := (blk_cell HA.out 0).trans rfl; have hl1 := HM1.out.look x HX.out; rw [if_neg (by rw [hi]; exact Bool.false_ne_true)] at hl1; obtain ⟨w2, hr2, hl2, hm2, hB2, hs2, hk2⟩ := HM1.out.upd x HX.out 1; have hne : ga ≠ b := (by have := HG.out; have := HBb.out; omega); have hc2 : w2.cell? ⟨ga, 0, none⟩ = some (.map (some b)) := (blk_cell ((hk2 ga hne).trans HA.out) 0).trans rfl; have HB2 := Aside0.mk hB2; have HS2 := Aside0.mk hs2; have HK2 := Aside0.mk hk2; have HM2 := Aside0.mk (hm2 (fun h => by rw [inS_iff.2 h] at hi; cases hi) rfl); clear hga hbox1 hb1 hB2 hs2 hk2 hne hm2))
  go_ret
  exact ⟨rfl, HM2.out, fun B hB => HB2.out B w hB (HB1.out.mono (by have := HBb.out; omega)), fun k hk hne => (HK2.out k hne).trans (HB1.out.block k hk)⟩
def attrsF : List ByteArray → List S29 → Option Bool
 | _, [] => some true
 | S, a :: r => if a.f0.size ≤ 1000000000000 then (canon_name.f a.f0).bind fun b => if b = true then (if a.f0.toList = ([120, 109, 108, 110, 115] : List UInt8) then some false else (utf_Valid.f a.f1).bind fun v => if v = true then (if inS a.f0 S = true then some false else attrsF (a.f0 :: S) r) else some false) else some false else none
def canon_attrs.f (l0 : List S29) : Option Bool := (attrsF [] l0).bind fun q => if q = true then some (decide ((l0.length : Int) < 10)) else some false
set_option maxHeartbeats 4000000 in
set_option maxRecDepth 100000 in
theorem canon_attrs.calls (A0 : Option Addr) (c0 : Nat) (l0 : List S29) (r : Bool) (w : World) (hr0 : Kd.C k29 w A0 l0.length l0) (hc0 : l0.length ≤ c0) (h : canon_attrs.f l0 = some r) (hT : Tabs w) :
  Calls Tryd.prog 31 #[.slice A0 l0.length c0] w fun e w' => e = .returned (.bool r) ∧ Below w.heap.size w w' := by
 have hu1 := Tryd.underlying79
 have hu2 := Tryd.underlying29
 have hmk := @run_makeMap Tryd.prog
 have hum := Tryd.underlying77
 have hlen : l0.length ≤ 9223372036854775807 := hr0.2.1
 unfold canon_attrs.f at h
 obtain ⟨q, hq, h⟩ := Option.bind_eq_some_iff.1 h
 have HR := Aside0.mk hr0
 have HC := Aside0.mk hc0
 have HT := Aside0.mk hT
 have HQ := Aside0.mk hq
 have HH := Aside0.mk h
 have HM0 := Aside0.mk (Ms.new w)
 have HB0 := Aside0.mk (below_alloc (Below.refl w.heap.size w) (.map #[] 0))
 have HBb := Aside0.mk (show w.heap.size < (w.alloc (.map #[] 0)).heap.size from HM0.out.lt)
 clear hr0 hc0 hT hq h
 go_enter Tryd.func31, Tryd.ntmps31
 obtain ⟨b, hb⟩ : ∃ b, w.heap.size = b := ⟨_, rfl⟩
 go_upto_region 2 with (first | ((with_reducible refine gate_dst (N := 3) rfl ?_); refine box_event ?hg (N := 3) ?hd (cs := #[.map none]) (t := 79) ?hr ?_; (case hd => rfl); (case hg => rfl); (case hr => first | (go_simp; done) | (go_simp; rfl)); intro gm hgm w1 hbox1 hb1; have HA := Aside0.mk hbox1; have HB1 := Aside0.mk hb1; have HG := Aside0.mk hgm; have hc0 : w1.cell? ⟨gm, 0, none⟩ = some (.map none) := (blk_cell HA.out 0).trans rfl; have hf0 := blk_frozen HA.out 0; clear hgm hbox1 hb1))
 generalize hW : World.setCell _ _ _ = W
 have hBa : Below (w.alloc (.map #[] 0)).heap.size (w.alloc (.map #[] 0)) W := by rw [← hW]; exact HB1.out.setCell (p := ⟨gm, 0, none⟩) (Nat.le_of_eq HG.out.symm) _
 have HAW := Aside0.mk (show W.heap[gm]? = some (.cells #[.map (some b)] 79 (0, 0)) from by rw [← hW]; exact blk_put HA.out 0 _ rfl)
 have HMW := Aside0.mk (show Ms W b [] from by have := HM0.out.below hBa; rwa [hb] at this)
 have HBW := Aside0.mk (show Below w.heap.size w W from HB0.out.trans (hBa.mono (Nat.le_of_lt HBb.out)))
 have HNe := Aside0.mk (show gm ≠ b from by have h1 := HG.out; have h2 := HBb.out; omega)
 have HBl := Aside0.mk (show w.heap.size ≤ b from Nat.le_of_eq hb)
 clear hW hBa hb HA HB1 HG hc0 hf0 HM0 HB0 HBb
 go_wp2
 go_loopg [5, 10] (l0.length + 1) (fun gk v5 v10 wr => ∃ (i : Nat) (S : List ByteArray), i ≤ l0.length ∧ v10 = .int .i64 i ∧ l0.length < gk + i ∧ Aside0 (attrsF S (l0.drop i) = some q) ∧ Aside0 (Ms wr b S) ∧ Aside0 (wr.heap[gm]? = some (.cells #[.map (some b)] 79 (0, 0))) ∧ Aside0 (Below w.heap.size w wr))
 case atStart => exact ⟨0, [], Nat.zero_le _, rfl, by omega, HQ, HMW, HAW, HBW⟩
 case round =>
  clear HMW HAW HBW HQ
  obtain ⟨i, S, hi, rfl, hk, HQi, HMi, HAi, HBi⟩ := hrel
  by_cases hlt : i < l0.length
  ·obtain ⟨k', rfl⟩ : ∃ k', gk = k' + 1 := ⟨gk - 1, by omega⟩
   have hltz : (i : Int) < (l0.length : Int) := by omega
   obtain ⟨ad, e1, hx, hy⟩ := at_T29 (Kd.C_below HR.out HBi.out) (i : Int) (by omega) (by omega)
   cases e1
   rw [Int.toNat_natCast] at hx hy
   have hrd : rd_T29 l0 (i : Int) = l0[i] := by simp [rd_T29, hlt]
   rw [hrd] at hx hy
   clear hrd
   have hq := HQi.out
   rw [List.drop_eq_getElem_cons hlt] at hq
   obtain ⟨x, hxx⟩ : ∃ x, l0[i] = x := ⟨_, rfl⟩
   rw [hxx] at hx hy hq
   unfold attrsF at hq
   have hxs : x.f0.size ≤ 1000000000000 := Decidable.byContradiction fun hn => by rw [if_neg hn] at hq; cases hq
   rw [if_pos hxs] at hq
   obtain ⟨bn, hbn, hq⟩ := Option.bind_eq_some_iff.1 hq
   have HXs := Aside0.mk hxs
   have HN := Aside0.mk hbn
   clear hxs hbn hxx HQi
   go_upto_region 5 with (first | ((with_reducible refine gate_dst (N := 5) rfl ?_); refine box_event ?hg (N := 5) ?hd (cs := #[.string (⟨#[]⟩ : ByteArray), .string (⟨#[]⟩ : ByteArray)]) (t := 29) ?hr ?_; (case hd => rfl); (case hg => rfl); (case hr => first | (go_simp; done) | (go_simp; rfl)); intro ga hga w3 hbox3 hb3; have HA3 := Aside0.mk hbox3; have HB3 := Aside0.mk hb3; have HG3 := Aside0.mk hga; have hc0 : w3.cell? ⟨ga, 0, none⟩ = some (.string (⟨#[]⟩ : ByteArray)) := (blk_cell HA3.out 0).trans rfl; have hc1 : w3.cell? ⟨ga, 1, none⟩ = some (.string (⟨#[]⟩ : ByteArray)) := (blk_cell HA3.out 1).trans rfl; have hf0 := blk_frozen HA3.out 0; have hf1 := blk_frozen HA3.out 1; clear hga hbox3 hb3))
   generalize hW : World.setCell _ _ _ = W2
   have hBW2 : Below wr.heap.size wr W2 := by rw [← hW]; exact (HB3.out.setCell (p := ⟨ga, 0, none⟩) (Nat.le_of_eq HG3.out.symm) _).setCell (p := ⟨ga, 1, none⟩) (Nat.le_of_eq HG3.out.symm) _
   have HA5 := Aside0.mk (show W2.heap[ga]? = some (.cells #[.string x.f0, .string x.f1] 29 (0, 0)) from by rw [← hW]; exact blk_put (blk_put HA3.out 0 _ rfl) 1 _ rfl)
   have HM2 := Aside0.mk (HMi.out.below hBW2)
   have HA2 := Aside0.mk (blk_below HAi.out hBW2)
   have HB2 := Aside0.mk (below_step HBi.out hBW2)
   have hd : W2.cell? ⟨ga, 0, none⟩ = some (.string x.f0) := (blk_cell HA5.out 0).trans rfl
   clear hW hBW2 hx hy hc0 hc1 hf0 hf1 HA3 HB3 HG3 HMi HAi HBi
   cases bn with
   | false =>
    rw [if_neg Bool.false_ne_true] at hq
    obtain rfl := Option.some.inj hq
    go_wp2_with (first | (go_at_call 29; (with_reducible refine (canon_name.calls x.f0 _ _ HN.out (tabs_b HT.out HB2.out)).mono ?_); rintro e w4 ⟨rfl, hb4⟩; have HB4 := Aside0.mk (below_step HB2.out hb4); have HA4 := Aside0.mk (blk_below HA5.out hb4); have HM4 := Aside0.mk (HM2.out.below hb4); have HAm4 := Aside0.mk (blk_below HA2.out hb4); have hd0 : w4.cell? ⟨ga, 0, none⟩ = some (.string x.f0) := (blk_cell HA4.out 0).trans rfl; have hd1 : w4.cell? ⟨ga, 1, none⟩ = some (.string x.f1) := (blk_cell HA4.out 1).trans rfl; clear hb4))
    go_ret
    have hr := HH.out
    rw [if_neg Bool.false_ne_true] at hr
    exact ⟨by rw [← Option.some.inj hr]; rfl, HB4.out⟩
   | true =>
    rw [if_pos rfl] at hq
    by_cases hs : x.f0.toList = ([120, 109, 108, 110, 115] : List UInt8)
    ·have hsb : (x.f0.toList == ([120, 109, 108, 110, 115] : List UInt8)) = true := beq_iff_eq.mpr hs
     rw [if_pos hs] at hq
     obtain rfl := Option.some.inj hq
     go_wp2_with (first | (go_at_call 29; (with_reducible refine (canon_name.calls x.f0 _ _ HN.out (tabs_b HT.out HB2.out)).mono ?_); rintro e w4 ⟨rfl, hb4⟩; have HB4 := Aside0.mk (below_step HB2.out hb4); have HA4 := Aside0.mk (blk_below HA5.out hb4); have HM4 := Aside0.mk (HM2.out.below hb4); have HAm4 := Aside0.mk (blk_below HA2.out hb4); have hd0 : w4.cell? ⟨ga, 0, none⟩ = some (.string x.f0) := (blk_cell HA4.out 0).trans rfl; have hd1 : w4.cell? ⟨ga, 1, none⟩ = some (.string x.f1) := (blk_cell HA4.out 1).trans rfl; clear hb4))
     go_ret
     have hr := HH.out
     rw [if_neg Bool.false_ne_true] at hr
     exact ⟨by rw [← Option.some.inj hr]; rfl, HB4.out⟩
    have hsb : (x.f0.toList == ([120, 109, 108, 110, 115] : List UInt8)) = false := beq_eq_false_iff_ne.mpr hs
    rw [if_neg hs] at hq
    obtain ⟨bv, hbv, hq⟩ := Option.bind_eq_some_iff.1 hq
    have HV := Aside0.mk hbv
    clear hbv
    cases bv with
    | false =>
     rw [if_neg Bool.false_ne_true] at hq
     obtain rfl := Option.some.inj hq
     go_wp2_with (first | (go_at_call 29; (with_reducible refine (canon_name.calls x.f0 _ _ HN.out (tabs_b HT.out HB2.out)).mono ?_); rintro e w4 ⟨rfl, hb4⟩; have HB4 := Aside0.mk (below_step HB2.out hb4); have HA4 := Aside0.mk (blk_below HA5.out hb4); have HM4 := Aside0.mk (HM2.out.below hb4); have HAm4 := Aside0.mk (blk_below HA2.out hb4); have hd0 : w4.cell? ⟨ga, 0, none⟩ = some (.string x.f0) := (blk_cell HA4.out 0).trans rfl; have hd1 : w4.cell? ⟨ga, 1, none⟩ = some (.string x.f1) := (blk_cell HA4.out 1).trans rfl; clear hb4) | (go_at_call 30; (with_reducible refine (utf_Valid.calls x.f1 _ _ HV.out (tabs_b HT.out HB4.out)).mono ?_); rintro e w5 ⟨rfl, hb5⟩; have HB5 := Aside0.mk (below_step HB4.out hb5); have HM5 := Aside0.mk (HM4.out.below hb5); have HAm5 := Aside0.mk (blk_below HAm4.out hb5); have he0 : w5.cell? ⟨ga, 0, none⟩ = some (.string x.f0) := (blk_cell (blk_below HA4.out hb5) 0).trans rfl; have hem : w5.cell? ⟨gm, 0, none⟩ = some (.map (some b)) := (blk_cell HAm5.out 0).trans rfl; clear hb5))
     go_ret
     have hr := HH.out
     rw [if_neg Bool.false_ne_true] at hr
     exact ⟨by rw [← Option.some.inj hr]; rfl, HB5.out⟩
    | true =>
     rw [if_pos rfl] at hq
     cases hin : inS x.f0 S with
     | true =>
      rw [hin, if_pos rfl] at hq
      obtain rfl := Option.some.inj hq
      have HIn := Aside0.mk hin
      clear hin
      go_wp2_with (first | (go_at_call 29; (with_reducible refine (canon_name.calls x.f0 _ _ HN.out (tabs_b HT.out HB2.out)).mono ?_); rintro e w4 ⟨rfl, hb4⟩; have HB4 := Aside0.mk (below_step HB2.out hb4); have HA4 := Aside0.mk (blk_below HA5.out hb4); have HM4 := Aside0.mk (HM2.out.below hb4); have HAm4 := Aside0.mk (blk_below HA2.out hb4); have hd0 : w4.cell? ⟨ga, 0, none⟩ = some (.string x.f0) := (blk_cell HA4.out 0).trans rfl; have hd1 : w4.cell? ⟨ga, 1, none⟩ = some (.string x.f1) := (blk_cell HA4.out 1).trans rfl; clear hb4) | (go_at_call 30; (with_reducible refine (utf_Valid.calls x.f1 _ _ HV.out (tabs_b HT.out HB4.out)).mono ?_); rintro e w5 ⟨rfl, hb5⟩; have HB5 := Aside0.mk (below_step HB4.out hb5); have HM5 := Aside0.mk (HM4.out.below hb5); have HAm5 := Aside0.mk (blk_below HAm4.out hb5); have he0 : w5.cell? ⟨ga, 0, none⟩ = some (.string x.f0) := (blk_cell (blk_below HA4.out hb5) 0).trans rfl; have hem : w5.cell? ⟨gm, 0, none⟩ = some (.map (some b)) := (blk_cell HAm5.out 0).trans rfl; clear hb5) | (go_at_call 43; refine (canon_twice_string.hof b x.f0 S _ HM5.out (by have := HXs.out; omega)).mono ?_; rintro e w6 ⟨rfl, hm6, hB6, hk6⟩; have HB6 := Aside0.mk (HB5.out.trans (hB6 _ HBl.out)); have HM6 := Aside0.mk hm6; have HA6 := Aside0.mk ((hk6 gm (blk_lt HAm5.out) HNe.out).trans HAm5.out); clear hm6 hB6 hk6; rw [HIn.out]))
      go_ret
      have hr := HH.out
      rw [if_neg Bool.false_ne_true] at hr
      exact ⟨by rw [← Option.some.inj hr]; rfl, HB6.out⟩
     | false =>
      rw [hin, if_neg Bool.false_ne_true] at hq
      have HQ2 := Aside0.mk hq
      have HIn := Aside0.mk hin
      clear hin hq
      go_wp2_with (first | (go_at_call 29; (with_reducible refine (canon_name.calls x.f0 _ _ HN.out (tabs_b HT.out HB2.out)).mono ?_); rintro e w4 ⟨rfl, hb4⟩; have HB4 := Aside0.mk (below_step HB2.out hb4); have HA4 := Aside0.mk (blk_below HA5.out hb4); have HM4 := Aside0.mk (HM2.out.below hb4); have HAm4 := Aside0.mk (blk_below HA2.out hb4); have hd0 : w4.cell? ⟨ga, 0, none⟩ = some (.string x.f0) := (blk_cell HA4.out 0).trans rfl; have hd1 : w4.cell? ⟨ga, 1, none⟩ = some (.string x.f1) := (blk_cell HA4.out 1).trans rfl; clear hb4) | (go_at_call 30; (with_reducible refine (utf_Valid.calls x.f1 _ _ HV.out (tabs_b HT.out HB4.out)).mono ?_); rintro e w5 ⟨rfl, hb5⟩; have HB5 := Aside0.mk (below_step HB4.out hb5); have HM5 := Aside0.mk (HM4.out.below hb5); have HAm5 := Aside0.mk (blk_below HAm4.out hb5); have he0 : w5.cell? ⟨ga, 0, none⟩ = some (.string x.f0) := (blk_cell (blk_below HA4.out hb5) 0).trans rfl; have hem : w5.cell? ⟨gm, 0, none⟩ = some (.map (some b)) := (blk_cell HAm5.out 0).trans rfl; clear hb5) | (go_at_call 43; refine (canon_twice_string.hof b x.f0 S _ HM5.out (by have := HXs.out; omega)).mono ?_; rintro e w6 ⟨rfl, hm6, hB6, hk6⟩; have HB6 := Aside0.mk (HB5.out.trans (hB6 _ HBl.out)); have HM6 := Aside0.mk hm6; have HA6 := Aside0.mk ((hk6 gm (blk_lt HAm5.out) HNe.out).trans HAm5.out); clear hm6 hB6 hk6; rw [HIn.out]))
      go_roundg k'
      case measure => omega
      case rel => exact ⟨i + 1, x.f0 :: S, by omega, by go_num, by omega, HQ2, ⟨HM6.out HIn.out⟩, HA6, HB6⟩
  have : i = l0.length := by omega
  subst this
  have hq := HQi.out
  rw [List.drop_length] at hq
  obtain rfl := Option.some.inj hq
  have hr := HH.out
  rw [if_pos rfl] at hr
  obtain rfl := Option.some.inj hr
  clear hq hr HH
  go_wp2
  go_ret
  exact ⟨rfl, HBi.out⟩
def canon_alone.f (a0_0 : Int) (a0_1 : Int) (a0_2 : ByteArray) (a0_3 : ByteArray) (l0_4 : List (S29)) (a0_5 : ByteArray) : Option (Bool) := (canon_name.f a0_2).bind fun t116 => (if t116 = true then ((utf_Valid.f a0_5).bind fun t117 => (if t117 = true then ((utf_Valid.f a0_3).bind fun t118 => (if t118 = true then ((canon_attrs.f l0_4).bind fun t119 => (some t119)) else (some false))) else (some false))) else (some false))
set_option maxHeartbeats 8000000 in
set_option maxRecDepth 100000 in
theorem canon_alone.calls (a0_0 : Int) (a0_1 : Int) (a0_2 : ByteArray) (a0_3 : ByteArray) (A0_4 : Option Addr) (c0_4 : Nat) (l0_4 : List (S29)) (a0_5 : ByteArray) (r : Bool) (w : World) (hr0_4 : Kd.C k29 w A0_4 l0_4.length l0_4) (hc0_4 : l0_4.length ≤ c0_4) (h : canon_alone.f a0_0 a0_1 a0_2 a0_3 l0_4 a0_5 = some r) (hT : Tabs w) :
  Calls Tryd.prog 17 #[.agg #[.int .i64 a0_0, .int .i64 a0_1, .string a0_2, .string a0_3, .slice A0_4 l0_4.length c0_4, .string a0_5]] w fun e w' => e = .returned (.bool r) ∧ Below w.heap.size w w' := by
 have hu32 := Tryd.underlying32
 have HT := Aside0.mk hT
 clear hT
 have HR0_4 := Aside0.mk hr0_4
 have HC0_4 := Aside0.mk hc0_4
 clear hr0_4 hc0_4
 have HB := Aside0.mk (Below.refl w.heap.size w)
 have H : ((canon_name.f a0_2).bind fun t116 => (if t116 = true then ((utf_Valid.f a0_5).bind fun t117 => (if t117 = true then ((utf_Valid.f a0_3).bind fun t118 => (if t118 = true then ((canon_attrs.f l0_4).bind fun t119 => (some t119)) else (some false))) else (some false))) else (some false))) = some r := h
 clear h
 replace H := Option.bind_eq_some_iff.mp H
 obtain ⟨t116, A20, H⟩ := H
 replace H : (if t116 = true then ((utf_Valid.f a0_5).bind fun t117 => (if t117 = true then ((utf_Valid.f a0_3).bind fun t118 => (if t118 = true then ((canon_attrs.f l0_4).bind fun t119 => (some t119)) else (some false))) else (some false))) else (some false)) = some r := H
 have A2 := Aside0.mk A20
 clear A20
 by_cases c3 : t116 = true
 ·subst c3
  have H1 : ((utf_Valid.f a0_5).bind fun t117 => (if t117 = true then ((utf_Valid.f a0_3).bind fun t118 => (if t118 = true then ((canon_attrs.f l0_4).bind fun t119 => (some t119)) else (some false))) else (some false))) = some r := by rw [if_pos rfl] at H; exact H
  clear H
  have H := H1
  clear H1
  replace H := Option.bind_eq_some_iff.mp H
  obtain ⟨t117, A40, H⟩ := H
  replace H : (if t117 = true then ((utf_Valid.f a0_3).bind fun t118 => (if t118 = true then ((canon_attrs.f l0_4).bind fun t119 => (some t119)) else (some false))) else (some false)) = some r := H
  have A4 := Aside0.mk A40
  clear A40
  by_cases c5 : t117 = true
  ·subst c5
   have H1 : ((utf_Valid.f a0_3).bind fun t118 => (if t118 = true then ((canon_attrs.f l0_4).bind fun t119 => (some t119)) else (some false))) = some r := by rw [if_pos rfl] at H; exact H
   clear H
   have H := H1
   clear H1
   replace H := Option.bind_eq_some_iff.mp H
   obtain ⟨t118, A60, H⟩ := H
   replace H : (if t118 = true then ((canon_attrs.f l0_4).bind fun t119 => (some t119)) else (some false)) = some r := H
   have A6 := Aside0.mk A60
   clear A60
   by_cases c7 : t118 = true
   ·subst c7
    have H1 : ((canon_attrs.f l0_4).bind fun t119 => (some t119)) = some r := by rw [if_pos rfl] at H; exact H
    clear H
    have H := H1
    clear H1
    replace H := Option.bind_eq_some_iff.mp H
    obtain ⟨t119, A80, H⟩ := H
    replace H : (some t119) = some r := H
    have A8 := Aside0.mk A80
    clear A80
    obtain rfl := Option.some.inj H
    go_enter Tryd.func17, Tryd.ntmps17
    go_wp2_with (first | ((with_reducible refine gate_dst (N := 1) rfl ?_); refine box_event ?hg (N := 1) ?hd (cs := #[.int .i64 a0_0, .int .i64 a0_1, .string a0_2, .string a0_3, .slice A0_4 l0_4.length c0_4, .string a0_5]) (t := 32) ?hr ?_; (case hd => rfl); (case hg => rfl); (case hr => first | (go_simp; done) | (go_simp; rfl)); intro gb115 hg w9 hbox hb; have n0_ := Aside0.mk (below_step (by repeat (first | (with_reducible first | exact HB.out | apply below_alloc | apply pw_below_drewN | apply below_drew1) | exact HB.out)) hb); have n1_ := Aside0.mk (hbox); have n2_ := Aside0.mk ((by rw [hg]; exact (below_size (by repeat (first | (with_reducible first | exact HB.out | apply below_alloc | apply pw_below_drewN | apply below_drew1) | exact HB.out))) : w.heap.size ≤ gb115)); have n3_ := Aside0.mk ((by rw [hg]; exact (below_size (by repeat (first | (with_reducible first | exact HB.out | apply below_alloc | apply pw_below_drewN | apply below_drew1) | exact HB.out))) : w.heap.size ≤ gb115)); clear HB; have HB := n0_; have BK115 := n1_; have GW115 := n2_; have GE115 := n3_; clear n0_ n1_ n2_ n3_; clear hb hbox hg; have hcz10_0 : w9.cell? ⟨gb115, 0, none⟩ = some (.int .i64 a0_0) := (blk_cell BK115.out 0).trans rfl; have hcz10_1 : w9.cell? ⟨gb115, 1, none⟩ = some (.int .i64 a0_1) := (blk_cell BK115.out 1).trans rfl; have hcz10_2 : w9.cell? ⟨gb115, 2, none⟩ = some (.string a0_2) := (blk_cell BK115.out 2).trans rfl; have hcz10_3 : w9.cell? ⟨gb115, 3, none⟩ = some (.string a0_3) := (blk_cell BK115.out 3).trans rfl; have hcz10_4 : w9.cell? ⟨gb115, 4, none⟩ = some (.slice A0_4 l0_4.length c0_4) := (blk_cell BK115.out 4).trans rfl; have hcz10_5 : w9.cell? ⟨gb115, 5, none⟩ = some (.string a0_5) := (blk_cell BK115.out 5).trans rfl; have hfz10_0 := blk_frozen BK115.out 0; have hfz10_1 := blk_frozen BK115.out 1; have hfz10_2 := blk_frozen BK115.out 2; have hfz10_3 := blk_frozen BK115.out 3; have hfz10_4 := blk_frozen BK115.out 4; have hfz10_5 := blk_frozen BK115.out 5) | ((with_reducible refine gate_callee (f := 29) rfl ?_); refine goesL_ (some 5) rfl rfl Tryd.func29 (by kernel_rfl) rfl #[.string a0_2] rfl (by (try simp only [List.map_toArray, List.map_cons, List.map_nil]); first | done | rfl | (simp only [List.length_drop, List.length_take]; rfl)) ?_; (with_reducible refine (canon_name.calls a0_2 true _ A2.out (tabs_b HT.out (by repeat (first | (with_reducible first | exact HB.out | apply below_alloc | apply pw_below_drewN | apply below_drew1 | refine below_set ?_ GE115.out) | exact HB.out)))).mono ?_); rintro e w11 ⟨rfl, hb⟩; refine ⟨_, rfl, ?_⟩; have n0_ := Aside0.mk (blk_below (g := gb115) (o := .cells #[.int .i64 a0_0, .int .i64 a0_1, .string a0_2, .string a0_3, .slice A0_4 l0_4.length c0_4, .string a0_5] 32 (0, 0)) (by (with_reducible repeat (first | refine blk_drewN ?_ _ | refine blk_drew ?_ | refine blk_alloc ?_ _)); exact BK115.out) hb); have n1_ := Aside0.mk (below_step (by repeat (first | (with_reducible first | exact HB.out | apply below_alloc | apply pw_below_drewN | apply below_drew1 | refine below_set ?_ GE115.out) | exact HB.out)) hb); clear BK115; clear HB; have BK115 := n0_; have HB := n1_; clear n0_ n1_; (try clear hb); (try clear hb2); (try clear hk); (try clear hi); have hcz12_0 : w11.cell? ⟨gb115, 0, none⟩ = some (.int .i64 a0_0) := (blk_cell BK115.out 0).trans rfl; have hcz12_1 : w11.cell? ⟨gb115, 1, none⟩ = some (.int .i64 a0_1) := (blk_cell BK115.out 1).trans rfl; have hcz12_2 : w11.cell? ⟨gb115, 2, none⟩ = some (.string a0_2) := (blk_cell BK115.out 2).trans rfl; have hcz12_3 : w11.cell? ⟨gb115, 3, none⟩ = some (.string a0_3) := (blk_cell BK115.out 3).trans rfl; have hcz12_4 : w11.cell? ⟨gb115, 4, none⟩ = some (.slice A0_4 l0_4.length c0_4) := (blk_cell BK115.out 4).trans rfl; have hcz12_5 : w11.cell? ⟨gb115, 5, none⟩ = some (.string a0_5) := (blk_cell BK115.out 5).trans rfl; have hfz12_0 := blk_frozen BK115.out 0; have hfz12_1 := blk_frozen BK115.out 1; have hfz12_2 := blk_frozen BK115.out 2; have hfz12_3 := blk_frozen BK115.out 3; have hfz12_4 := blk_frozen BK115.out 4; have hfz12_5 := blk_frozen BK115.out 5) | (go_at_call 30; (with_reducible refine (utf_Valid.calls a0_5 true _ A4.out (tabs_b HT.out (by repeat (first | (with_reducible first | exact HB.out | apply below_alloc | apply pw_below_drewN | apply below_drew1 | refine below_set ?_ GE115.out) | exact HB.out)))).mono ?_); rintro e w13 ⟨rfl, hb⟩; have n0_ := Aside0.mk (blk_below (g := gb115) (o := .cells #[.int .i64 a0_0, .int .i64 a0_1, .string a0_2, .string a0_3, .slice A0_4 l0_4.length c0_4, .string a0_5] 32 (0, 0)) (by (with_reducible repeat (first | refine blk_drewN ?_ _ | refine blk_drew ?_ | refine blk_alloc ?_ _)); exact BK115.out) hb); have n1_ := Aside0.mk (below_step (by repeat (first | (with_reducible first | exact HB.out | apply below_alloc | apply pw_below_drewN | apply below_drew1 | refine below_set ?_ GE115.out) | exact HB.out)) hb); clear BK115; clear HB; have BK115 := n0_; have HB := n1_; clear n0_ n1_; (try clear hb); (try clear hb2); (try clear hk); (try clear hi); have hcz14_0 : w13.cell? ⟨gb115, 0, none⟩ = some (.int .i64 a0_0) := (blk_cell BK115.out 0).trans rfl; have hcz14_1 : w13.cell? ⟨gb115, 1, none⟩ = some (.int .i64 a0_1) := (blk_cell BK115.out 1).trans rfl; have hcz14_2 : w13.cell? ⟨gb115, 2, none⟩ = some (.string a0_2) := (blk_cell BK115.out 2).trans rfl; have hcz14_3 : w13.cell? ⟨gb115, 3, none⟩ = some (.string a0_3) := (blk_cell BK115.out 3).trans rfl; have hcz14_4 : w13.cell? ⟨gb115, 4, none⟩ = some (.slice A0_4 l0_4.length c0_4) := (blk_cell BK115.out 4).trans rfl; have hcz14_5 : w13.cell? ⟨gb115, 5, none⟩ = some (.string a0_5) := (blk_cell BK115.out 5).trans rfl; have hfz14_0 := blk_frozen BK115.out 0; have hfz14_1 := blk_frozen BK115.out 1; have hfz14_2 := blk_frozen BK115.out 2; have hfz14_3 := blk_frozen BK115.out 3; have hfz14_4 := blk_frozen BK115.out 4; have hfz14_5 := blk_frozen BK115.out 5) | (go_at_call 30; (with_reducible refine (utf_Valid.calls a0_3 true _ A6.out (tabs_b HT.out (by repeat (first | (with_reducible first | exact HB.out | apply below_alloc | apply pw_below_drewN | apply below_drew1 | refine below_set ?_ GE115.out) | exact HB.out)))).mono ?_); rintro e w15 ⟨rfl, hb⟩; have n0_ := Aside0.mk (blk_below (g := gb115) (o := .cells #[.int .i64 a0_0, .int .i64 a0_1, .string a0_2, .string a0_3, .slice A0_4 l0_4.length c0_4, .string a0_5] 32 (0, 0)) (by (with_reducible repeat (first | refine blk_drewN ?_ _ | refine blk_drew ?_ | refine blk_alloc ?_ _)); exact BK115.out) hb); have n1_ := Aside0.mk (below_step (by repeat (first | (with_reducible first | exact HB.out | apply below_alloc | apply pw_below_drewN | apply below_drew1 | refine below_set ?_ GE115.out) | exact HB.out)) hb); clear BK115; clear HB; have BK115 := n0_; have HB := n1_; clear n0_ n1_; (try clear hb); (try clear hb2); (try clear hk); (try clear hi); have hcz16_0 : w15.cell? ⟨gb115, 0, none⟩ = some (.int .i64 a0_0) := (blk_cell BK115.out 0).trans rfl; have hcz16_1 : w15.cell? ⟨gb115, 1, none⟩ = some (.int .i64 a0_1) := (blk_cell BK115.out 1).trans rfl; have hcz16_2 : w15.cell? ⟨gb115, 2, none⟩ = some (.string a0_2) := (blk_cell BK115.out 2).trans rfl; have hcz16_3 : w15.cell? ⟨gb115, 3, none⟩ = some (.string a0_3) := (blk_cell BK115.out 3).trans rfl; have hcz16_4 : w15.cell? ⟨gb115, 4, none⟩ = some (.slice A0_4 l0_4.length c0_4) := (blk_cell BK115.out 4).trans rfl; have hcz16_5 : w15.cell? ⟨gb115, 5, none⟩ = some (.string a0_5) := (blk_cell BK115.out 5).trans rfl; have hfz16_0 := blk_frozen BK115.out 0; have hfz16_1 := blk_frozen BK115.out 1; have hfz16_2 := blk_frozen BK115.out 2; have hfz16_3 := blk_frozen BK115.out 3; have hfz16_4 := blk_frozen BK115.out 4; have hfz16_5 := blk_frozen BK115.out 5) | (go_at_call 31; (with_reducible refine (canon_attrs.calls _ _ l0_4 t119 _ ?side1 ?side2 A8.out (tabs_b HT.out (by repeat (first | (with_reducible first | exact HB.out | apply below_alloc | apply pw_below_drewN | apply below_drew1 | refine below_set ?_ GE115.out) | exact HB.out)))).mono ?_); (case side1 => repeat (first | exact (Kd.C_below HR0_4.out HB.out) | (with_reducible refine Kd.C_alloc ?_ _) | (with_reducible refine Kd.C_drewN ?_ _) | (with_reducible refine Kd.C_drew ?_))); (case side2 => exact HC0_4.out); rintro e w17 ⟨rfl, hb⟩; have n0_ := Aside0.mk (blk_below (g := gb115) (o := .cells #[.int .i64 a0_0, .int .i64 a0_1, .string a0_2, .string a0_3, .slice A0_4 l0_4.length c0_4, .string a0_5] 32 (0, 0)) (by (with_reducible repeat (first | refine blk_drewN ?_ _ | refine blk_drew ?_ | refine blk_alloc ?_ _)); exact BK115.out) hb); have n1_ := Aside0.mk (below_step (by repeat (first | (with_reducible first | exact HB.out | apply below_alloc | apply pw_below_drewN | apply below_drew1 | refine below_set ?_ GE115.out) | exact HB.out)) hb); clear BK115; clear HB; have BK115 := n0_; have HB := n1_; clear n0_ n1_; (try clear hb); (try clear hb2); (try clear hk); (try clear hi)))
    go_ret
    exact ⟨by first | rfl | (simp only [nemp]; rfl) | (simp [errW_none, errW_some] <;> rfl) | (simp [*, errW_none, errW_some] <;> rfl), by repeat (first | (with_reducible first | exact HB.out | apply below_alloc | apply pw_below_drewN | apply below_drew1 | refine below_set ?_ GE115.out) | exact HB.out)⟩
   replace c7 := Bool.eq_false_iff.mpr c7
   subst c7
   have H1 : (some false) = some r := by rw [if_neg (show ¬ (false = true) by decide)] at H; exact H
   clear H
   have H := H1
   clear H1
   obtain rfl := Option.some.inj H
   go_enter Tryd.func17, Tryd.ntmps17
   go_wp2_with (first | ((with_reducible refine gate_dst (N := 1) rfl ?_); refine box_event ?hg (N := 1) ?hd (cs := #[.int .i64 a0_0, .int .i64 a0_1, .string a0_2, .string a0_3, .slice A0_4 l0_4.length c0_4, .string a0_5]) (t := 32) ?hr ?_; (case hd => rfl); (case hg => rfl); (case hr => first | (go_simp; done) | (go_simp; rfl)); intro gb115 hg w18 hbox hb; have n0_ := Aside0.mk (below_step (by repeat (first | (with_reducible first | exact HB.out | apply below_alloc | apply pw_below_drewN | apply below_drew1) | exact HB.out)) hb); have n1_ := Aside0.mk (hbox); have n2_ := Aside0.mk ((by rw [hg]; exact (below_size (by repeat (first | (with_reducible first | exact HB.out | apply below_alloc | apply pw_below_drewN | apply below_drew1) | exact HB.out))) : w.heap.size ≤ gb115)); have n3_ := Aside0.mk ((by rw [hg]; exact (below_size (by repeat (first | (with_reducible first | exact HB.out | apply below_alloc | apply pw_below_drewN | apply below_drew1) | exact HB.out))) : w.heap.size ≤ gb115)); clear HB; have HB := n0_; have BK115 := n1_; have GW115 := n2_; have GE115 := n3_; clear n0_ n1_ n2_ n3_; clear hb hbox hg; have hcz19_0 : w18.cell? ⟨gb115, 0, none⟩ = some (.int .i64 a0_0) := (blk_cell BK115.out 0).trans rfl; have hcz19_1 : w18.cell? ⟨gb115, 1, none⟩ = some (.int .i64 a0_1) := (blk_cell BK115.out 1).trans rfl; have hcz19_2 : w18.cell? ⟨gb115, 2, none⟩ = some (.string a0_2) := (blk_cell BK115.out 2).trans rfl; have hcz19_3 : w18.cell? ⟨gb115, 3, none⟩ = some (.string a0_3) := (blk_cell BK115.out 3).trans rfl; have hcz19_4 : w18.cell? ⟨gb115, 4, none⟩ = some (.slice A0_4 l0_4.length c0_4) := (blk_cell BK115.out 4).trans rfl; have hcz19_5 : w18.cell? ⟨gb115, 5, none⟩ = some (.string a0_5) := (blk_cell BK115.out 5).trans rfl; have hfz19_0 := blk_frozen BK115.out 0; have hfz19_1 := blk_frozen BK115.out 1; have hfz19_2 := blk_frozen BK115.out 2; have hfz19_3 := blk_frozen BK115.out 3; have hfz19_4 := blk_frozen BK115.out 4; have hfz19_5 := blk_frozen BK115.out 5) | ((with_reducible refine gate_callee (f := 29) rfl ?_); refine goesL_ (some 5) rfl rfl Tryd.func29 (by kernel_rfl) rfl #[.string a0_2] rfl (by (try simp only [List.map_toArray, List.map_cons, List.map_nil]); first | done | rfl | (simp only [List.length_drop, List.length_take]; rfl)) ?_; (with_reducible refine (canon_name.calls a0_2 true _ A2.out (tabs_b HT.out (by repeat (first | (with_reducible first | exact HB.out | apply below_alloc | apply pw_below_drewN | apply below_drew1 | refine below_set ?_ GE115.out) | exact HB.out)))).mono ?_); rintro e w20 ⟨rfl, hb⟩; refine ⟨_, rfl, ?_⟩; have n0_ := Aside0.mk (blk_below (g := gb115) (o := .cells #[.int .i64 a0_0, .int .i64 a0_1, .string a0_2, .string a0_3, .slice A0_4 l0_4.length c0_4, .string a0_5] 32 (0, 0)) (by (with_reducible repeat (first | refine blk_drewN ?_ _ | refine blk_drew ?_ | refine blk_alloc ?_ _)); exact BK115.out) hb); have n1_ := Aside0.mk (below_step (by repeat (first | (with_reducible first | exact HB.out | apply below_alloc | apply pw_below_drewN | apply below_drew1 | refine below_set ?_ GE115.out) | exact HB.out)) hb); clear BK115; clear HB; have BK115 := n0_; have HB := n1_; clear n0_ n1_; (try clear hb); (try clear hb2); (try clear hk); (try clear hi); have hcz21_0 : w20.cell? ⟨gb115, 0, none⟩ = some (.int .i64 a0_0) := (blk_cell BK115.out 0).trans rfl; have hcz21_1 : w20.cell? ⟨gb115, 1, none⟩ = some (.int .i64 a0_1) := (blk_cell BK115.out 1).trans rfl; have hcz21_2 : w20.cell? ⟨gb115, 2, none⟩ = some (.string a0_2) := (blk_cell BK115.out 2).trans rfl; have hcz21_3 : w20.cell? ⟨gb115, 3, none⟩ = some (.string a0_3) := (blk_cell BK115.out 3).trans rfl; have hcz21_4 : w20.cell? ⟨gb115, 4, none⟩ = some (.slice A0_4 l0_4.length c0_4) := (blk_cell BK115.out 4).trans rfl; have hcz21_5 : w20.cell? ⟨gb115, 5, none⟩ = some (.string a0_5) := (blk_cell BK115.out 5).trans rfl; have hfz21_0 := blk_frozen BK115.out 0; have hfz21_1 := blk_frozen BK115.out 1; have hfz21_2 := blk_frozen BK115.out 2; have hfz21_3 := blk_frozen BK115.out 3; have hfz21_4 := blk_frozen BK115.out 4; have hfz21_5 := blk_frozen BK115.out 5) | (go_at_call 30; (with_reducible refine (utf_Valid.calls a0_5 true _ A4.out (tabs_b HT.out (by repeat (first | (with_reducible first | exact HB.out | apply below_alloc | apply pw_below_drewN | apply below_drew1 | refine below_set ?_ GE115.out) | exact HB.out)))).mono ?_); rintro e w22 ⟨rfl, hb⟩; have n0_ := Aside0.mk (blk_below (g := gb115) (o := .cells #[.int .i64 a0_0, .int .i64 a0_1, .string a0_2, .string a0_3, .slice A0_4 l0_4.length c0_4, .string a0_5] 32 (0, 0)) (by (with_reducible repeat (first | refine blk_drewN ?_ _ | refine blk_drew ?_ | refine blk_alloc ?_ _)); exact BK115.out) hb); have n1_ := Aside0.mk (below_step (by repeat (first | (with_reducible first | exact HB.out | apply below_alloc | apply pw_below_drewN | apply below_drew1 | refine below_set ?_ GE115.out) | exact HB.out)) hb); clear BK115; clear HB; have BK115 := n0_; have HB := n1_; clear n0_ n1_; (try clear hb); (try clear hb2); (try clear hk); (try clear hi); have hcz23_0 : w22.cell? ⟨gb115, 0, none⟩ = some (.int .i64 a0_0) := (blk_cell BK115.out 0).trans rfl; have hcz23_1 : w22.cell? ⟨gb115, 1, none⟩ = some (.int .i64 a0_1) := (blk_cell BK115.out 1).trans rfl; have hcz23_2 : w22.cell? ⟨gb115, 2, none⟩ = some (.string a0_2) := (blk_cell BK115.out 2).trans rfl; have hcz23_3 : w22.cell? ⟨gb115, 3, none⟩ = some (.string a0_3) := (blk_cell BK115.out 3).trans rfl; have hcz23_4 : w22.cell? ⟨gb115, 4, none⟩ = some (.slice A0_4 l0_4.length c0_4) := (blk_cell BK115.out 4).trans rfl; have hcz23_5 : w22.cell? ⟨gb115, 5, none⟩ = some (.string a0_5) := (blk_cell BK115.out 5).trans rfl; have hfz23_0 := blk_frozen BK115.out 0; have hfz23_1 := blk_frozen BK115.out 1; have hfz23_2 := blk_frozen BK115.out 2; have hfz23_3 := blk_frozen BK115.out 3; have hfz23_4 := blk_frozen BK115.out 4; have hfz23_5 := blk_frozen BK115.out 5) | (go_at_call 30; (with_reducible refine (utf_Valid.calls a0_3 false _ A6.out (tabs_b HT.out (by repeat (first | (with_reducible first | exact HB.out | apply below_alloc | apply pw_below_drewN | apply below_drew1 | refine below_set ?_ GE115.out) | exact HB.out)))).mono ?_); rintro e w24 ⟨rfl, hb⟩; have n0_ := Aside0.mk (blk_below (g := gb115) (o := .cells #[.int .i64 a0_0, .int .i64 a0_1, .string a0_2, .string a0_3, .slice A0_4 l0_4.length c0_4, .string a0_5] 32 (0, 0)) (by (with_reducible repeat (first | refine blk_drewN ?_ _ | refine blk_drew ?_ | refine blk_alloc ?_ _)); exact BK115.out) hb); have n1_ := Aside0.mk (below_step (by repeat (first | (with_reducible first | exact HB.out | apply below_alloc | apply pw_below_drewN | apply below_drew1 | refine below_set ?_ GE115.out) | exact HB.out)) hb); clear BK115; clear HB; have BK115 := n0_; have HB := n1_; clear n0_ n1_; (try clear hb); (try clear hb2); (try clear hk); (try clear hi)))
   go_ret
   exact ⟨by first | rfl | (simp only [nemp]; rfl) | (simp [errW_none, errW_some] <;> rfl) | (simp [*, errW_none, errW_some] <;> rfl), by repeat (first | (with_reducible first | exact HB.out | apply below_alloc | apply pw_below_drewN | apply below_drew1 | refine below_set ?_ GE115.out) | exact HB.out)⟩
  replace c5 := Bool.eq_false_iff.mpr c5
  subst c5
  have H1 : (some false) = some r := by rw [if_neg (show ¬ (false = true) by decide)] at H; exact H
  clear H
  have H := H1
  clear H1
  obtain rfl := Option.some.inj H
  go_enter Tryd.func17, Tryd.ntmps17
  go_wp2_with (first | ((with_reducible refine gate_dst (N := 1) rfl ?_); refine box_event ?hg (N := 1) ?hd (cs := #[.int .i64 a0_0, .int .i64 a0_1, .string a0_2, .string a0_3, .slice A0_4 l0_4.length c0_4, .string a0_5]) (t := 32) ?hr ?_; (case hd => rfl); (case hg => rfl); (case hr => first | (go_simp; done) | (go_simp; rfl)); intro gb115 hg w25 hbox hb; have n0_ := Aside0.mk (below_step (by repeat (first | (with_reducible first | exact HB.out | apply below_alloc | apply pw_below_drewN | apply below_drew1) | exact HB.out)) hb); have n1_ := Aside0.mk (hbox); have n2_ := Aside0.mk ((by rw [hg]; exact (below_size (by repeat (first | (with_reducible first | exact HB.out | apply below_alloc | apply pw_below_drewN | apply below_drew1) | exact HB.out))) : w.heap.size ≤ gb115)); have n3_ := Aside0.mk ((by rw [hg]; exact (below_size (by repeat (first | (with_reducible first | exact HB.out | apply below_alloc | apply pw_below_drewN | apply below_drew1) | exact HB.out))) : w.heap.size ≤ gb115)); clear HB; have HB := n0_; have BK115 := n1_; have GW115 := n2_; have GE115 := n3_; clear n0_ n1_ n2_ n3_; clear hb hbox hg; have hcz26_0 : w25.cell? ⟨gb115, 0, none⟩ = some (.int .i64 a0_0) := (blk_cell BK115.out 0).trans rfl; have hcz26_1 : w25.cell? ⟨gb115, 1, none⟩ = some (.int .i64 a0_1) := (blk_cell BK115.out 1).trans rfl; have hcz26_2 : w25.cell? ⟨gb115, 2, none⟩ = some (.string a0_2) := (blk_cell BK115.out 2).trans rfl; have hcz26_3 : w25.cell? ⟨gb115, 3, none⟩ = some (.string a0_3) := (blk_cell BK115.out 3).trans rfl; have hcz26_4 : w25.cell? ⟨gb115, 4, none⟩ = some (.slice A0_4 l0_4.length c0_4) := (blk_cell BK115.out 4).trans rfl; have hcz26_5 : w25.cell? ⟨gb115, 5, none⟩ = some (.string a0_5) := (blk_cell BK115.out 5).trans rfl; have hfz26_0 := blk_frozen BK115.out 0; have hfz26_1 := blk_frozen BK115.out 1; have hfz26_2 := blk_frozen BK115.out 2; have hfz26_3 := blk_frozen BK115.out 3; have hfz26_4 := blk_frozen BK115.out 4; have hfz26_5 := blk_frozen BK115.out 5) | ((with_reducible refine gate_callee (f := 29) rfl ?_); refine goesL_ (some 5) rfl rfl Tryd.func29 (by kernel_rfl) rfl #[.string a0_2] rfl (by (try simp only [List.map_toArray, List.map_cons, List.map_nil]); first | done | rfl | (simp only [List.length_drop, List.length_take]; rfl)) ?_; (with_reducible refine (canon_name.calls a0_2 true _ A2.out (tabs_b HT.out (by repeat (first | (with_reducible first | exact HB.out | apply below_alloc | apply pw_below_drewN | apply below_drew1 | refine below_set ?_ GE115.out) | exact HB.out)))).mono ?_); rintro e w27 ⟨rfl, hb⟩; refine ⟨_, rfl, ?_⟩; have n0_ := Aside0.mk (blk_below (g := gb115) (o := .cells #[.int .i64 a0_0, .int .i64 a0_1, .string a0_2, .string a0_3, .slice A0_4 l0_4.length c0_4, .string a0_5] 32 (0, 0)) (by (with_reducible repeat (first | refine blk_drewN ?_ _ | refine blk_drew ?_ | refine blk_alloc ?_ _)); exact BK115.out) hb); have n1_ := Aside0.mk (below_step (by repeat (first | (with_reducible first | exact HB.out | apply below_alloc | apply pw_below_drewN | apply below_drew1 | refine below_set ?_ GE115.out) | exact HB.out)) hb); clear BK115; clear HB; have BK115 := n0_; have HB := n1_; clear n0_ n1_; (try clear hb); (try clear hb2); (try clear hk); (try clear hi); have hcz28_0 : w27.cell? ⟨gb115, 0, none⟩ = some (.int .i64 a0_0) := (blk_cell BK115.out 0).trans rfl; have hcz28_1 : w27.cell? ⟨gb115, 1, none⟩ = some (.int .i64 a0_1) := (blk_cell BK115.out 1).trans rfl; have hcz28_2 : w27.cell? ⟨gb115, 2, none⟩ = some (.string a0_2) := (blk_cell BK115.out 2).trans rfl; have hcz28_3 : w27.cell? ⟨gb115, 3, none⟩ = some (.string a0_3) := (blk_cell BK115.out 3).trans rfl; have hcz28_4 : w27.cell? ⟨gb115, 4, none⟩ = some (.slice A0_4 l0_4.length c0_4) := (blk_cell BK115.out 4).trans rfl; have hcz28_5 : w27.cell? ⟨gb115, 5, none⟩ = some (.string a0_5) := (blk_cell BK115.out 5).trans rfl; have hfz28_0 := blk_frozen BK115.out 0; have hfz28_1 := blk_frozen BK115.out 1; have hfz28_2 := blk_frozen BK115.out 2; have hfz28_3 := blk_frozen BK115.out 3; have hfz28_4 := blk_frozen BK115.out 4; have hfz28_5 := blk_frozen BK115.out 5) | (go_at_call 30; (with_reducible refine (utf_Valid.calls a0_5 false _ A4.out (tabs_b HT.out (by repeat (first | (with_reducible first | exact HB.out | apply below_alloc | apply pw_below_drewN | apply below_drew1 | refine below_set ?_ GE115.out) | exact HB.out)))).mono ?_); rintro e w29 ⟨rfl, hb⟩; have n0_ := Aside0.mk (blk_below (g := gb115) (o := .cells #[.int .i64 a0_0, .int .i64 a0_1, .string a0_2, .string a0_3, .slice A0_4 l0_4.length c0_4, .string a0_5] 32 (0, 0)) (by (with_reducible repeat (first | refine blk_drewN ?_ _ | refine blk_drew ?_ | refine blk_alloc ?_ _)); exact BK115.out) hb); have n1_ := Aside0.mk (below_step (by repeat (first | (with_reducible first | exact HB.out | apply below_alloc | apply pw_below_drewN | apply below_drew1 | refine below_set ?_ GE115.out) | exact HB.out)) hb); clear BK115; clear HB; have BK115 := n0_; have HB := n1_; clear n0_ n1_; (try clear hb); (try clear hb2); (try clear hk); (try clear hi)))
  go_ret
  exact ⟨by first | rfl | (simp only [nemp]; rfl) | (simp [errW_none, errW_some] <;> rfl) | (simp [*, errW_none, errW_some] <;> rfl), by repeat (first | (with_reducible first | exact HB.out | apply below_alloc | apply pw_below_drewN | apply below_drew1 | refine below_set ?_ GE115.out) | exact HB.out)⟩
 replace c3 := Bool.eq_false_iff.mpr c3
 subst c3
 have H1 : (some false) = some r := by rw [if_neg (show ¬ (false = true) by decide)] at H; exact H
 clear H
 have H := H1
 clear H1
 obtain rfl := Option.some.inj H
 go_enter Tryd.func17, Tryd.ntmps17
 go_wp2_with (first | ((with_reducible refine gate_dst (N := 1) rfl ?_); refine box_event ?hg (N := 1) ?hd (cs := #[.int .i64 a0_0, .int .i64 a0_1, .string a0_2, .string a0_3, .slice A0_4 l0_4.length c0_4, .string a0_5]) (t := 32) ?hr ?_; (case hd => rfl); (case hg => rfl); (case hr => first | (go_simp; done) | (go_simp; rfl)); intro gb115 hg w30 hbox hb; have n0_ := Aside0.mk (below_step (by repeat (first | (with_reducible first | exact HB.out | apply below_alloc | apply pw_below_drewN | apply below_drew1) | exact HB.out)) hb); have n1_ := Aside0.mk (hbox); have n2_ := Aside0.mk ((by rw [hg]; exact (below_size (by repeat (first | (with_reducible first | exact HB.out | apply below_alloc | apply pw_below_drewN | apply below_drew1) | exact HB.out))) : w.heap.size ≤ gb115)); have n3_ := Aside0.mk ((by rw [hg]; exact (below_size (by repeat (first | (with_reducible first | exact HB.out | apply below_alloc | apply pw_below_drewN | apply below_drew1) | exact HB.out))) : w.heap.size ≤ gb115)); clear HB; have HB := n0_; have BK115 := n1_; have GW115 := n2_; have GE115 := n3_; clear n0_ n1_ n2_ n3_; clear hb hbox hg; have hcz31_0 : w30.cell? ⟨gb115, 0, none⟩ = some (.int .i64 a0_0) := (blk_cell BK115.out 0).trans rfl; have hcz31_1 : w30.cell? ⟨gb115, 1, none⟩ = some (.int .i64 a0_1) := (blk_cell BK115.out 1).trans rfl; have hcz31_2 : w30.cell? ⟨gb115, 2, none⟩ = some (.string a0_2) := (blk_cell BK115.out 2).trans rfl; have hcz31_3 : w30.cell? ⟨gb115, 3, none⟩ = some (.string a0_3) := (blk_cell BK115.out 3).trans rfl; have hcz31_4 : w30.cell? ⟨gb115, 4, none⟩ = some (.slice A0_4 l0_4.length c0_4) := (blk_cell BK115.out 4).trans rfl; have hcz31_5 : w30.cell? ⟨gb115, 5, none⟩ = some (.string a0_5) := (blk_cell BK115.out 5).trans rfl; have hfz31_0 := blk_frozen BK115.out 0; have hfz31_1 := blk_frozen BK115.out 1; have hfz31_2 := blk_frozen BK115.out 2; have hfz31_3 := blk_frozen BK115.out 3; have hfz31_4 := blk_frozen BK115.out 4; have hfz31_5 := blk_frozen BK115.out 5) | ((with_reducible refine gate_callee (f := 29) rfl ?_); refine goesL_ (some 5) rfl rfl Tryd.func29 (by kernel_rfl) rfl #[.string a0_2] rfl (by (try simp only [List.map_toArray, List.map_cons, List.map_nil]); first | done | rfl | (simp only [List.length_drop, List.length_take]; rfl)) ?_; (with_reducible refine (canon_name.calls a0_2 false _ A2.out (tabs_b HT.out (by repeat (first | (with_reducible first | exact HB.out | apply below_alloc | apply pw_below_drewN | apply below_drew1 | refine below_set ?_ GE115.out) | exact HB.out)))).mono ?_); rintro e w32 ⟨rfl, hb⟩; refine ⟨_, rfl, ?_⟩; have n0_ := Aside0.mk (blk_below (g := gb115) (o := .cells #[.int .i64 a0_0, .int .i64 a0_1, .string a0_2, .string a0_3, .slice A0_4 l0_4.length c0_4, .string a0_5] 32 (0, 0)) (by (with_reducible repeat (first | refine blk_drewN ?_ _ | refine blk_drew ?_ | refine blk_alloc ?_ _)); exact BK115.out) hb); have n1_ := Aside0.mk (below_step (by repeat (first | (with_reducible first | exact HB.out | apply below_alloc | apply pw_below_drewN | apply below_drew1 | refine below_set ?_ GE115.out) | exact HB.out)) hb); clear BK115; clear HB; have BK115 := n0_; have HB := n1_; clear n0_ n1_; (try clear hb); (try clear hb2); (try clear hk); (try clear hi)))
 go_ret
 exact ⟨by first | rfl | (simp only [nemp]; rfl) | (simp [errW_none, errW_some] <;> rfl) | (simp [*, errW_none, errW_some] <;> rfl), by repeat (first | (with_reducible first | exact HB.out | apply below_alloc | apply pw_below_drewN | apply below_drew1 | refine below_set ?_ GE115.out) | exact HB.out)⟩
end Go.Proofs.YtgacmniagmfckaaDoor.Q
