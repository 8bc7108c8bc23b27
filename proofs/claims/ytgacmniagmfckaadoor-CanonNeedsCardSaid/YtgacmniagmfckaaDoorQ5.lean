-- Written by hookprint.py (wip/) of this session: the kit's print with hand-proved functions beside it. Not trusted: Lean checks it.
import Derived.Test.YtgacmniagmfckaaDoorQ0
import Derived.Test.YtgacmniagmfckaaDoorQ2
import Derived.Test.YtgacmniagmfckaaDoorQ4
namespace Go.Proofs.YtgacmniagmfckaaDoor.Q
open List (setIfInBounds_toArray set_cons_zero set_cons_succ)
open Go.RowKit Go.Lib Go.Proofs.YtgacmniagmfckaaDoorX Go.Proofs.YtgacmniagmfckaaDoorW.PrintWords Go.Proofs.YtgacmniagmfckaaDoorW.PrintLast Go.Proofs.YtgacmniagmfckaaDoorW.PrintMore
set_option linter.unusedVariables false
set_option linter.unusedSimpArgs false
def cardexlaw10_awake.f (k : Nat)  : Option (Bool) := (canon_Write.f k (([(⟨(-1), 0, (⟨#[97]⟩ : ByteArray), (⟨#[110]⟩ : ByteArray), ([] : List (S29)), (⟨#[]⟩ : ByteArray)⟩ : S32), (⟨0, 0, (⟨#[98]⟩ : ByteArray), (⟨#[110]⟩ : ByteArray), ([] : List (S29)), (⟨#[60]⟩ : ByteArray)⟩ : S32)] : List (S32)))).bind fun bt156 => (if bt156.2 = 0 then (some (bt156.1.toList == ([60, 63, 120, 109, 108, 32, 118, 101, 114, 115, 105, 111, 110, 61, 39, 49, 46, 48, 39, 32, 101, 110, 99, 111, 100, 105, 110, 103, 61, 39, 85, 84, 70, 45, 56, 39, 63, 62, 10, 60, 97, 32, 120, 109, 108, 110, 115, 61, 39, 110, 39, 62, 60, 98, 62, 38, 108, 116, 59, 60, 47, 98, 62, 60, 47, 97, 62] : List UInt8))) else (some false))
theorem cardexlaw10_awake.mono : ∀ k, LeO (cardexlaw10_awake.f k ) (cardexlaw10_awake.f (k + 1) ) := by
 intro  k
 unfold cardexlaw10_awake.f
 repeat' first
   | (with_reducible exact canon_Write.mono _ _)
   | (with_reducible exact LeO.refl _)
   | (with_reducible exact LeO.none _)
   | (with_reducible refine LeO.ite ?_ ?_)
   | (with_reducible refine LeO.bind ?_ (fun _ => ?_))
   | exact canon_Write.mono _ _
   | exact LeO.none _
   | refine LeO.ite ?_ ?_
   | refine LeO.bind ?_ (fun _ => ?_)
set_option maxHeartbeats 8000000 in
set_option maxRecDepth 100000 in
theorem cardexlaw10_awake.calls (k : Nat)  (r : Bool) (w : World) (h : cardexlaw10_awake.f k  = some r) (hT : Tabs w) :
  Calls Tryd.prog 6 #[] w fun e w' => e = .returned (.bool r) ∧ Below w.heap.size w w' := by
 have hu32 := Tryd.underlying32
 have HT := Aside0.mk hT
 clear hT
 have HB := Aside0.mk (Below.refl w.heap.size w)
 have H : ((canon_Write.f k (([(⟨(-1), 0, (⟨#[97]⟩ : ByteArray), (⟨#[110]⟩ : ByteArray), ([] : List (S29)), (⟨#[]⟩ : ByteArray)⟩ : S32), (⟨0, 0, (⟨#[98]⟩ : ByteArray), (⟨#[110]⟩ : ByteArray), ([] : List (S29)), (⟨#[60]⟩ : ByteArray)⟩ : S32)] : List (S32)))).bind fun bt156 => (if bt156.2 = 0 then (some (bt156.1.toList == ([60, 63, 120, 109, 108, 32, 118, 101, 114, 115, 105, 111, 110, 61, 39, 49, 46, 48, 39, 32, 101, 110, 99, 111, 100, 105, 110, 103, 61, 39, 85, 84, 70, 45, 56, 39, 63, 62, 10, 60, 97, 32, 120, 109, 108, 110, 115, 61, 39, 110, 39, 62, 60, 98, 62, 38, 108, 116, 59, 60, 47, 98, 62, 60, 47, 97, 62] : List UInt8))) else (some false))) = some r := h
 clear h
 obtain ⟨y153, hy153⟩ : ∃ y_ : List (S32), y_ = (([(⟨(-1), 0, (⟨#[97]⟩ : ByteArray), (⟨#[110]⟩ : ByteArray), ([] : List (S29)), (⟨#[]⟩ : ByteArray)⟩ : S32), (⟨0, 0, (⟨#[98]⟩ : ByteArray), (⟨#[110]⟩ : ByteArray), ([] : List (S29)), (⟨#[60]⟩ : ByteArray)⟩ : S32)] : List (S32))) := ⟨_, rfl⟩
 replace H : ((canon_Write.f k y153).bind fun bt156 => (if bt156.2 = 0 then (some (bt156.1.toList == ([60, 63, 120, 109, 108, 32, 118, 101, 114, 115, 105, 111, 110, 61, 39, 49, 46, 48, 39, 32, 101, 110, 99, 111, 100, 105, 110, 103, 61, 39, 85, 84, 70, 45, 56, 39, 63, 62, 10, 60, 97, 32, 120, 109, 108, 110, 115, 61, 39, 110, 39, 62, 60, 98, 62, 38, 108, 116, 59, 60, 47, 98, 62, 60, 47, 97, 62] : List UInt8))) else (some false))) = some r := by first | (rw [hy153]; with_reducible exact H) | (have H2_ := (Option.bind_some _ _).symm.trans H; rw [hy153]; with_reducible exact H2_) | (have H2_ := (Option.bind_some _ _).symm.trans H; with_reducible exact H2_) | with_reducible exact H | (rw [hy153]; exact H) | exact H
 have Ny153 := Aside0.mk hy153
 clear hy153
 replace H := Option.bind_eq_some_iff.mp H
 obtain ⟨⟨t156, t157⟩, A10, H⟩ := H
 replace H : (if t157 = 0 then (some (t156.toList == ([60, 63, 120, 109, 108, 32, 118, 101, 114, 115, 105, 111, 110, 61, 39, 49, 46, 48, 39, 32, 101, 110, 99, 111, 100, 105, 110, 103, 61, 39, 85, 84, 70, 45, 56, 39, 63, 62, 10, 60, 97, 32, 120, 109, 108, 110, 115, 61, 39, 110, 39, 62, 60, 98, 62, 38, 108, 116, 59, 60, 47, 98, 62, 60, 47, 97, 62] : List UInt8))) else (some false)) = some r := H
 have A1 := Aside0.mk A10
 clear A10
 by_cases c2 : t157 = 0
 ·rw [if_pos c2] at H
  have c2b0 : (t157 == 0) = true := beq_iff_eq.mpr c2
  have c2b1 : (t157 != 0) = false := bne_eq_false_iff_eq.mpr c2
  clear c2
  obtain rfl := Option.some.inj H
  go_enter Tryd.func6, Tryd.ntmps6
  go_wp2_with (first | ((with_reducible refine gate_dst (N := 6) rfl ?_); refine Kd.S_lit k32 _ 32 ?hg (N := 6) ?hd (xs := ([(⟨(-1), 0, (⟨#[97]⟩ : ByteArray), (⟨#[110]⟩ : ByteArray), ([] : List (S29)), (⟨#[]⟩ : ByteArray)⟩ : S32), (⟨0, 0, (⟨#[98]⟩ : ByteArray), (⟨#[110]⟩ : ByteArray), ([] : List (S29)), (⟨#[60]⟩ : ByteArray)⟩ : S32)] : List (S32))) (inner := [.int .i64 (-1), .int .i64 0, .string (⟨#[97]⟩ : ByteArray), .string (⟨#[110]⟩ : ByteArray), .slice none 0 0, .string (⟨#[]⟩ : ByteArray), .int .i64 0, .int .i64 0, .string (⟨#[98]⟩ : ByteArray), .string (⟨#[110]⟩ : ByteArray), .slice none 0 0, .string (⟨#[60]⟩ : ByteArray)]) (ok := fun _ => True) (okp := fun _ => True) ?hr ?hp (fun _ hk => hk) trivial (Below.refl _ _) (Nat.le_refl _) (by simp) ?_; (case hd => rfl); (case hg => rfl); (case hr => first | (go_simp; done) | (go_simp; rfl)); (case hp => exact (Reps.c6 (show Kd.M k32 _ _ _ (⟨(-1), 0, (⟨#[97]⟩ : ByteArray), (⟨#[110]⟩ : ByteArray), ([] : List (S29)), (⟨#[]⟩ : ByteArray)⟩ : S32) [.int .i64 (-1), .int .i64 0, .string (⟨#[97]⟩ : ByteArray), .string (⟨#[110]⟩ : ByteArray), .slice none 0 0, .string (⟨#[]⟩ : ByteArray)] from (k32_mkM _ _ _ (⟨(-1), 0, (⟨#[97]⟩ : ByteArray), (⟨#[110]⟩ : ByteArray), ([] : List (S29)), (⟨#[]⟩ : ByteArray)⟩ : S32) (Kd.R_nil _ _ _ _ _))) (Reps.c6 (show Kd.M k32 _ _ _ (⟨0, 0, (⟨#[98]⟩ : ByteArray), (⟨#[110]⟩ : ByteArray), ([] : List (S29)), (⟨#[60]⟩ : ByteArray)⟩ : S32) [.int .i64 0, .int .i64 0, .string (⟨#[98]⟩ : ByteArray), .string (⟨#[110]⟩ : ByteArray), .slice none 0 0, .string (⟨#[60]⟩ : ByteArray)] from (k32_mkM _ _ _ (⟨0, 0, (⟨#[98]⟩ : ByteArray), (⟨#[110]⟩ : ByteArray), ([] : List (S29)), (⟨#[60]⟩ : ByteArray)⟩ : S32) (Kd.R_nil _ _ _ _ _))) (Reps.none _ _)))); intro v154 w3 ho4 hb hg_ hnew_; clear hg_ hnew_; (first | rw [← Ny153.out] at ho4 | (simp only [Int.reduceToNat] at ho4; rw [← Ny153.out] at ho4)); have n0_ := Aside0.mk (Kd.S_lower ho4 (below_size (by repeat (first | (with_reducible first | exact HB.out | apply below_alloc | apply pw_below_drewN | apply below_drew1) | exact HB.out)))); have n1_ := Aside0.mk (below_step (by repeat (first | (with_reducible first | exact HB.out | apply below_alloc | apply pw_below_drewN | apply below_drew1) | exact HB.out)) hb); clear HB; have HO155 := n0_; have HB := n1_; clear n0_ n1_; clear hb ho4; obtain ⟨Ao5, co5, eo5⟩ := Kd.S_slice HO155.out; subst eo5) | ((with_reducible refine gate_callee (f := 7) rfl ?_); refine goesL_ (some 7) rfl rfl Tryd.func7 (by kernel_rfl) rfl #[.slice Ao5 y153.length co5] rfl (by (try simp only [List.map_toArray, List.map_cons, List.map_nil]); first | done | rfl | (simp only [List.length_drop, List.length_take]; rfl)) ?_; (with_reducible refine (canon_Write.calls k _ _ y153 t156 t157 _ ?side1 ?side2 A1.out (tabs_b HT.out (by repeat (first | (with_reducible first | exact HB.out | apply below_alloc | apply pw_below_drewN | apply below_drew1) | exact HB.out)))).mono ?_); (case side1 => repeat (first | exact (Kd.S_reads' HO155.out).2.2 | (with_reducible refine Kd.C_alloc ?_ _) | (with_reducible refine Kd.C_drewN ?_ _) | (with_reducible refine Kd.C_drew ?_))); (case side2 => exact (Kd.S_reads' HO155.out).2.1); rintro e w6 ⟨rfl, hb⟩; refine ⟨_, rfl, ?_⟩; have n0_ := Aside0.mk (Kd.S_below (by (with_reducible repeat (first | apply Kd.S_alloc | apply Kd.S_drewN | apply Kd.S_drew)); exact HO155.out) hb); have n1_ := Aside0.mk (below_step (by repeat (first | (with_reducible first | exact HB.out | apply below_alloc | apply pw_below_drewN | apply below_drew1) | exact HB.out)) hb); clear HO155; clear HB; have HO155 := n0_; have HB := n1_; clear n0_ n1_; (try clear hb); (try clear hb2); (try clear hk); (try clear hi)))
  go_ret
  exact ⟨by first | rfl | (simp only [nemp]; rfl) | (simp [errW_none, errW_some] <;> rfl) | (simp [*, errW_none, errW_some] <;> rfl), by repeat (first | (with_reducible first | exact HB.out | apply below_alloc | apply pw_below_drewN | apply below_drew1) | exact HB.out)⟩
 rw [if_neg c2] at H
 have c2b0 : (t157 == 0) = false := beq_eq_false_iff_ne.mpr c2
 have c2b1 : (t157 != 0) = true := bne_iff_ne.mpr c2
 obtain rfl := Option.some.inj H
 go_enter Tryd.func6, Tryd.ntmps6
 go_wp2_with (first | ((with_reducible refine gate_dst (N := 6) rfl ?_); refine Kd.S_lit k32 _ 32 ?hg (N := 6) ?hd (xs := ([(⟨(-1), 0, (⟨#[97]⟩ : ByteArray), (⟨#[110]⟩ : ByteArray), ([] : List (S29)), (⟨#[]⟩ : ByteArray)⟩ : S32), (⟨0, 0, (⟨#[98]⟩ : ByteArray), (⟨#[110]⟩ : ByteArray), ([] : List (S29)), (⟨#[60]⟩ : ByteArray)⟩ : S32)] : List (S32))) (inner := [.int .i64 (-1), .int .i64 0, .string (⟨#[97]⟩ : ByteArray), .string (⟨#[110]⟩ : ByteArray), .slice none 0 0, .string (⟨#[]⟩ : ByteArray), .int .i64 0, .int .i64 0, .string (⟨#[98]⟩ : ByteArray), .string (⟨#[110]⟩ : ByteArray), .slice none 0 0, .string (⟨#[60]⟩ : ByteArray)]) (ok := fun _ => True) (okp := fun _ => True) ?hr ?hp (fun _ hk => hk) trivial (Below.refl _ _) (Nat.le_refl _) (by simp) ?_; (case hd => rfl); (case hg => rfl); (case hr => first | (go_simp; done) | (go_simp; rfl)); (case hp => exact (Reps.c6 (show Kd.M k32 _ _ _ (⟨(-1), 0, (⟨#[97]⟩ : ByteArray), (⟨#[110]⟩ : ByteArray), ([] : List (S29)), (⟨#[]⟩ : ByteArray)⟩ : S32) [.int .i64 (-1), .int .i64 0, .string (⟨#[97]⟩ : ByteArray), .string (⟨#[110]⟩ : ByteArray), .slice none 0 0, .string (⟨#[]⟩ : ByteArray)] from (k32_mkM _ _ _ (⟨(-1), 0, (⟨#[97]⟩ : ByteArray), (⟨#[110]⟩ : ByteArray), ([] : List (S29)), (⟨#[]⟩ : ByteArray)⟩ : S32) (Kd.R_nil _ _ _ _ _))) (Reps.c6 (show Kd.M k32 _ _ _ (⟨0, 0, (⟨#[98]⟩ : ByteArray), (⟨#[110]⟩ : ByteArray), ([] : List (S29)), (⟨#[60]⟩ : ByteArray)⟩ : S32) [.int .i64 0, .int .i64 0, .string (⟨#[98]⟩ : ByteArray), .string (⟨#[110]⟩ : ByteArray), .slice none 0 0, .string (⟨#[60]⟩ : ByteArray)] from (k32_mkM _ _ _ (⟨0, 0, (⟨#[98]⟩ : ByteArray), (⟨#[110]⟩ : ByteArray), ([] : List (S29)), (⟨#[60]⟩ : ByteArray)⟩ : S32) (Kd.R_nil _ _ _ _ _))) (Reps.none _ _)))); intro v154 w7 ho8 hb hg_ hnew_; clear hg_ hnew_; (first | rw [← Ny153.out] at ho8 | (simp only [Int.reduceToNat] at ho8; rw [← Ny153.out] at ho8)); have n0_ := Aside0.mk (Kd.S_lower ho8 (below_size (by repeat (first | (with_reducible first | exact HB.out | apply below_alloc | apply pw_below_drewN | apply below_drew1) | exact HB.out)))); have n1_ := Aside0.mk (below_step (by repeat (first | (with_reducible first | exact HB.out | apply below_alloc | apply pw_below_drewN | apply below_drew1) | exact HB.out)) hb); clear HB; have HO155 := n0_; have HB := n1_; clear n0_ n1_; clear hb ho8; obtain ⟨Ao9, co9, eo9⟩ := Kd.S_slice HO155.out; subst eo9) | ((with_reducible refine gate_callee (f := 7) rfl ?_); refine goesL_ (some 7) rfl rfl Tryd.func7 (by kernel_rfl) rfl #[.slice Ao9 y153.length co9] rfl (by (try simp only [List.map_toArray, List.map_cons, List.map_nil]); first | done | rfl | (simp only [List.length_drop, List.length_take]; rfl)) ?_; (with_reducible refine (canon_Write.calls k _ _ y153 t156 t157 _ ?side1 ?side2 A1.out (tabs_b HT.out (by repeat (first | (with_reducible first | exact HB.out | apply below_alloc | apply pw_below_drewN | apply below_drew1) | exact HB.out)))).mono ?_); (case side1 => repeat (first | exact (Kd.S_reads' HO155.out).2.2 | (with_reducible refine Kd.C_alloc ?_ _) | (with_reducible refine Kd.C_drewN ?_ _) | (with_reducible refine Kd.C_drew ?_))); (case side2 => exact (Kd.S_reads' HO155.out).2.1); rintro e w10 ⟨rfl, hb⟩; refine ⟨_, rfl, ?_⟩; have n0_ := Aside0.mk (Kd.S_below (by (with_reducible repeat (first | apply Kd.S_alloc | apply Kd.S_drewN | apply Kd.S_drew)); exact HO155.out) hb); have n1_ := Aside0.mk (below_step (by repeat (first | (with_reducible first | exact HB.out | apply below_alloc | apply pw_below_drewN | apply below_drew1) | exact HB.out)) hb); clear HO155; clear HB; have HO155 := n0_; have HB := n1_; clear n0_ n1_; (try clear hb); (try clear hb2); (try clear hk); (try clear hi)))
 go_ret
 exact ⟨by first | rfl | (simp only [nemp]; rfl) | (simp [errW_none, errW_some] <;> rfl) | (simp [*, errW_none, errW_some] <;> rfl), by repeat (first | (with_reducible first | exact HB.out | apply below_alloc | apply pw_below_drewN | apply below_drew1) | exact HB.out)⟩
def nA : List S29 := [⟨⟨#[120]⟩, ⟨#[49]⟩⟩]
def n0 (p : Int) (l : List S29) : S32 := ⟨p, 0, ⟨#[97]⟩, ⟨#[]⟩, l, ⟨#[]⟩⟩
def n1 (nm tx : ByteArray) : S32 := ⟨0, 0, nm, ⟨#[]⟩, [], tx⟩
def n2 (sp : ByteArray) : S32 := ⟨1, 0, ⟨#[99]⟩, sp, [], ⟨#[116]⟩⟩
def n3 (p : Int) (nm tx : ByteArray) : S32 := ⟨p, 0, nm, ⟨#[]⟩, [], tx⟩
def n4 : S32 := ⟨1, 0, ⟨#[101]⟩, ⟨#[]⟩, [], ⟨#[]⟩⟩
def oneB (v : Int) : ByteArray := ⟨#[UInt8.ofNat v.toNat]⟩
def manyA : Nat → List S29
 | 0 => nA
 | i + 1 => manyA i ++ [⟨oneB (IntKind.u8.wrap (97 + IntKind.u8.wrap (i : Int))), ⟨#[]⟩⟩]
theorem manyA_len : ∀ i, (manyA i).length = i + 1
 | 0 => rfl
 | i + 1 => by rw [manyA, List.length_append, manyA_len i]; rfl
def base4 : List S32 := [n0 (-1) nA, n1 ⟨#[98]⟩ ⟨#[]⟩, n2 ⟨#[]⟩, n3 0 ⟨#[100]⟩ ⟨#[]⟩]
def needL (t c : Int) : List S32 :=
 if t = 0 then [n0 0 nA, n1 ⟨#[98]⟩ ⟨#[]⟩, n2 ⟨#[]⟩, n3 0 ⟨#[100]⟩ ⟨#[]⟩]
 else if t = 1 then [n0 (-1) nA, n1 ⟨#[49, 98]⟩ ⟨#[]⟩, n2 ⟨#[]⟩, n3 0 ⟨#[100]⟩ ⟨#[]⟩]
 else if t = 2 then [n0 (-1) nA, n1 ⟨#[98]⟩ ⟨#[116]⟩, n2 ⟨#[]⟩, n3 0 ⟨#[100]⟩ ⟨#[]⟩]
 else if t = 3 then [n0 (-1) nA, n1 ⟨#[98]⟩ ⟨#[]⟩, n2 ⟨#[]⟩, n3 3 ⟨#[100]⟩ ⟨#[]⟩]
 else if t = 4 then [n0 (-1) nA, n1 ⟨#[98]⟩ ⟨#[]⟩, n2 ⟨#[]⟩, n3 (-1) ⟨#[100]⟩ ⟨#[]⟩]
 else if t = 5 then base4 ++ [n4]
 else if t = 6 then [n0 (-1) (nA ++ [⟨⟨#[120]⟩, ⟨#[]⟩⟩]), n1 ⟨#[98]⟩ ⟨#[]⟩, n2 ⟨#[]⟩, n3 0 ⟨#[100]⟩ ⟨#[]⟩]
 else if t = 7 then [n0 (-1) nA, n1 ⟨#[98]⟩ ⟨#[]⟩, n2 ⟨#[]⟩, n3 0 ⟨#[97, 58, 98]⟩ ⟨#[]⟩]
 else if t = 8 then [n0 (-1) nA, n1 ⟨#[98]⟩ ⟨#[]⟩, n2 ⟨#[]⟩, n3 0 ⟨#[100]⟩ (oneB ((128 + Int.tmod c 128) % 256))]
 else if t = 9 then [n0 (-1) [⟨⟨#[120]⟩, ⟨#[1]⟩⟩], n1 ⟨#[98]⟩ ⟨#[]⟩, n2 ⟨#[]⟩, n3 0 ⟨#[100]⟩ ⟨#[]⟩]
 else if t = 10 then [n0 (-1) [⟨⟨#[120, 109, 108, 110, 115]⟩, ⟨#[49]⟩⟩], n1 ⟨#[98]⟩ ⟨#[]⟩, n2 ⟨#[]⟩, n3 0 ⟨#[100]⟩ ⟨#[]⟩]
 else if t = 11 then [n0 (-1) nA, n1 ⟨#[98]⟩ ⟨#[]⟩, n2 ⟨#[255]⟩, n3 0 ⟨#[100]⟩ ⟨#[]⟩]
 else [n0 (-1) (manyA 9), n1 ⟨#[98]⟩ ⟨#[]⟩, n2 ⟨#[]⟩, n3 0 ⟨#[100]⟩ ⟨#[]⟩]
def cardexlaw10_CanonNeeds.f (k : Nat) (a0 a1 : Int) : Option Bool := (cardexlaw10_awake.f k).bind fun a => if a = true then (canon_Right.f k base4).bind fun b => if b = true then (canon_Write.f k (needL (Int.tmod (IntKind.u64.wrap a0) 13) a1)).bind fun e => (canon_Right.f k (needL (Int.tmod (IntKind.u64.wrap a0) 13) a1)).bind fun q => if q = true then some false else some (e.2 == 6) else some false else some false
theorem lit_event {P : Program} {ops : Array Oper} {rest : List Oper} {o : Oper} {a : Act} {Q : Exit → Act → World → Prop} {W : World} (hgd : o.guard = none) {N : Tmp} (_hd : o.dst = some N) {inner : List Value} {n e : Nat}
  (hrun : (execOp a.eval o).run P W = .ok (.value (.slice (some ⟨W.heap.size, 0, none⟩) n n)) (W.alloc (.cells inner.toArray e)))
  (h : ∀ g, g = W.heap.size → ∀ w1, w1.heap[g]? = some (.cells inner.toArray e (0, 0)) → Below W.heap.size W w1 → wpList P ops Q rest (a.put o.dst (.slice (some ⟨g, 0, none⟩) n n)) w1) : wpList P ops Q (o :: rest) a W :=
 Kd.event_run hgd hrun (h _ rfl _ (blk_new W _) (below_alloc (Below.refl _ _) _))
theorem lit_step {P : Program} {ops : Array Oper} {o : Oper} {a : Act} {Q : Exit → Act → World → Prop} {Kc : Act → World → Prop} {W : World} (hw : Region.wanted o (yielded ops a.tmps) = true) {N : Tmp} (_hd : o.dst = some N) {inner : List Value} {n e : Nat}
  (hrun : (execOp a.eval o).run P W = .ok (.value (.slice (some ⟨W.heap.size, 0, none⟩) n n)) (W.alloc (.cells inner.toArray e)))
  (h : ∀ g, g = W.heap.size → ∀ w1, w1.heap[g]? = some (.cells inner.toArray e (0, 0)) → Below W.heap.size W w1 → Kc (a.put o.dst (.slice (some ⟨g, 0, none⟩) n n)) w1) : if Region.wanted o (yielded ops a.tmps) = true then Oper.wp P o a W Kc Q else Kc (a.put o.dst undef) W :=
 event_step hw hrun (h _ rfl _ (blk_new W _) (below_alloc (Below.refl _ _) _))
theorem C_of_blk {α : Type} (d : Kd α) {w : World} {g t : Nat} {inner : List Value} {xs : List α} (hb : w.heap[g]? = some (.cells inner.toArray t (0, 0))) (hr : Reps (d.K w) d.sz xs inner) (hl : xs.length ≤ 9223372036854775807) : d.C w (some ⟨g, 0, none⟩) xs.length xs := by
 refine ⟨rfl, hl, fun _ => ⟨⟨g, 0, none⟩, rfl, fun j p hj => ⟨(inner.drop (j * d.sz)).take d.sz, ?_, hr.2 j p hj, fun i u hu => ?_⟩⟩⟩
 ·have hlt : j < xs.length := (List.getElem?_eq_some_iff.1 hj).1
  have h1 := hr.1
  rw [List.length_take, List.length_drop, h1, ← Nat.sub_mul]
  have : d.sz ≤ (xs.length - j) * d.sz := Nat.le_mul_of_pos_left _ (by omega)
  omega
 have hi : i < d.sz := by
  have := (List.getElem?_eq_some_iff.1 hu).1
  rw [List.length_take] at this; omega
 rw [List.getElem?_take_of_lt hi, List.getElem?_drop] at hu
 have h1 := blk_cell hb (j * d.sz + i)
 rw [List.getElem?_toArray, hu] at h1
 have e : (⟨g, 0, none⟩ : Addr).add (j * d.sz + i) = ⟨g, j * d.sz + i, none⟩ := by
  unfold Addr.add
  split
  ·rename_i h0; rw [h0]
  simp
 rw [e]; exact h1
theorem R_blk {α : Type} (d : Kd α) {w : World} {g e base : Nat} {inner : List Value} {xs : List α} {ok : Nat → Prop} (hb : w.heap[g]? = some (.cells inner.toArray e (0, 0))) (hg : base ≤ g) (hr : Reps (d.M w base (fun k => ok k ∧ some k ≠ some g)) d.sz xs inner) (hl : xs.length ≤ 140737488355328) (hok : ok g) : d.R e w base ok (.slice (some ⟨g, 0, none⟩) xs.length xs.length) xs := by
 refine ⟨fun k hk => ?_, inner, ⟨hr.1, .inr ⟨g, xs.length, inner.toArray, rfl, hg, hb, Nat.le_refl _, by unfold maxLen; omega, by simpa using hr.1, ?_⟩⟩, hr⟩
 ·have : g = k := by simpa [Value.ownBlock] using hk
  exact this ▸ hok
 rw [List.toList_toArray, ← hr.1, List.take_length]
def cellsN (x : S32) (v : Value) : List Value := [.int .i64 x.f0, .int .i64 x.f1, .string x.f2, .string x.f3, v, .string x.f5]
theorem need_C {w : World} {g t : Nat} {x0 x1 x2 x3 : S32} {A : Option Addr} {c : Nat} (hb : w.heap[g]? = some (.cells (cellsN x0 (.slice A x0.f4.length c) ++ (cellsN x1 (.slice none 0 0) ++ (cellsN x2 (.slice none 0 0) ++ cellsN x3 (.slice none 0 0)))).toArray t (0, 0))) (hc : x0.f4.length ≤ c) (h0 : Kd.C k29 w A x0.f4.length x0.f4) (h1 : x1.f4 = []) (h2 : x2.f4 = []) (h3 : x3.f4 = []) : Kd.C k32 w (some ⟨g, 0, none⟩) 4 [x0, x1, x2, x3] := by
 have nil : ∀ x : S32, x.f4 = [] → Kd.K k32 w x (cellsN x (.slice none 0 0)) := fun x hx => by
  have hC : Kd.C k29 w none x.f4.length x.f4 := by rw [hx]; exact Kd.C_nil _ _
  have := k32_mk w x (A4 := none) (c4 := 0) (by rw [hx]; exact Nat.le_refl _) hC
  rw [hx] at this; exact this
 exact C_of_blk k32 (xs := [x0, x1, x2, x3]) hb (Reps.c6 (k32_mk w x0 hc h0) (Reps.c6 (nil x1 h1) (Reps.c6 (nil x2 h2) (Reps.c6 (nil x3 h3) (Reps.none _ _))))) (by show 4 ≤ 9223372036854775807; decide)
set_option maxHeartbeats 40000000 in
set_option maxRecDepth 100000 in
theorem cardexlaw10_CanonNeeds.calls (k : Nat) (a0 a1 : Int) (r : Bool) (w : World) (h : cardexlaw10_CanonNeeds.f k a0 a1 = some r) (hT : Tabs w) (hlaw : r = true) :
  Calls Tryd.prog 4 #[.int .i64 a0, .int .u8 a1] w fun e w' => e = .returned (.bool r) ∧ Below w.heap.size w w' := by
 subst hlaw
 unfold cardexlaw10_CanonNeeds.f at h
 obtain ⟨a, ha, h⟩ := Option.bind_eq_some_iff.1 h
 cases a with
 | false => rw [if_neg Bool.false_ne_true] at h; cases h
 | true =>
 rw [if_pos rfl] at h
 obtain ⟨b, hb, h⟩ := Option.bind_eq_some_iff.1 h
 cases b with
 | false => rw [if_neg Bool.false_ne_true] at h; cases h
 | true =>
 rw [if_pos rfl] at h
 obtain ⟨⟨e1, e2⟩, hw, h⟩ := Option.bind_eq_some_iff.1 h
 obtain ⟨q, hq, h⟩ := Option.bind_eq_some_iff.1 h
 cases q with
 | true => rw [if_pos rfl] at h; cases h
 | false =>
 rw [if_neg Bool.false_ne_true] at h
 have HE := Aside0.mk (Option.some.inj h)
 have HA := Aside0.mk ha
 have HB := Aside0.mk hb
 have HW := Aside0.mk hw
 have HQ := Aside0.mk hq
 have HT := Aside0.mk hT
 clear ha hb hw hq h hT
 obtain ⟨t, ht⟩ : ∃ t, t = Int.tmod (IntKind.u64.wrap a0) 13 := ⟨_, rfl⟩
 have HTt := Aside0.mk ht
 rw [← ht] at HW HQ
 clear ht
 have hu1 := Tryd.underlying29
 have hu2 := Tryd.underlying32
 go_enter Tryd.func4, Tryd.ntmps4
 go_upto_block 0 with (first | ((with_reducible refine gate_dst (N := 10) rfl ?_); refine lit_event ?hg (N := 10) ?hd (inner := [.string ⟨#[120]⟩, .string ⟨#[49]⟩]) (n := 1) (e := 29) ?hr ?_; (case hd => rfl); (case hg => rfl); (case hr => first | (go_simp; done) | (go_simp; rfl)); intro ga hga w1 hbox1 hb1; have HG1 := Aside0.mk hbox1; have HB1 := Aside0.mk hb1; have HGa := Aside0.mk hga; clear hga hbox1 hb1) | ((with_reducible refine gate_dst (N := 15) rfl ?_); refine lit_event ?hg (N := 15) ?hd (inner := cellsN (n0 (-1) nA) (.slice (some ⟨ga, 0, none⟩) 1 1) ++ (cellsN (n1 ⟨#[98]⟩ ⟨#[]⟩) (.slice none 0 0) ++ (cellsN (n2 ⟨#[]⟩) (.slice none 0 0) ++ cellsN (n3 0 ⟨#[100]⟩ ⟨#[]⟩) (.slice none 0 0)))) (n := 4) (e := 32) ?hr ?_; (case hd => rfl); (case hg => rfl); (case hr => first | (go_simp; done) | (go_simp; rfl)); intro g hgg w2 hbox2 hb2; have HG2 := Aside0.mk hbox2; have HB2 := Aside0.mk (below_step HB1.out hb2); have HGg := Aside0.mk hgg; have HA2 := Aside0.mk (blk_below HG1.out hb2); clear hgg hbox2 hb2) | (go_at_call 6; (with_reducible refine (cardexlaw10_awake.calls k true _ HA.out (tabs_b HT.out HB2.out)).mono ?_); rintro e w3 ⟨rfl, hb3⟩; have HB3 := Aside0.mk (below_step HB2.out hb3); have HG3 := Aside0.mk (blk_below HG2.out hb3); have HA3 := Aside0.mk (blk_below HA2.out hb3); clear hb3) | (go_at_call 9; (refine (canon_Right.calls k _ _ base4 true _ (need_C (x0 := n0 (-1) nA) HG3.out (Nat.le_refl 1) (C_of_blk k29 (xs := nA) HA3.out (Reps.c2 (k29_mk _ _) (Reps.none _ _)) (by decide)) rfl rfl rfl) (Nat.le_refl 4) HB.out (tabs_b HT.out HB3.out)).mono ?_); rintro e w4 ⟨rfl, hb4⟩; have HB4 := Aside0.mk (below_step HB3.out hb4); have HG4 := Aside0.mk (blk_below HG3.out hb4); have HA4 := Aside0.mk (blk_below HA3.out hb4); clear hb4))
 (try simp only [Act.put, setIfInBounds_toArray, set_cons_zero, set_cons_succ])
 rw [← HTt.out]
 have HNE := Aside0.mk (show ga ≠ g from by have h1 := HGa.out; have h2 := HGg.out; have h3 := blk_lt HG1.out; omega)
 have HGE := Aside0.mk (show w.heap.size ≤ g from by have h2 := HGg.out; have := HB1.out.size; omega)
 clear HG1 HB1 HG2 HB2 HA2 HG3 HB3 HA3 HA HB
 go_cut [5] (fun v5 wc => ∃ A c, v5 = .slice A (needL t a1).length c ∧ Aside0 ((needL t a1).length ≤ c) ∧ Aside0 (Kd.C k32 wc A (needL t a1).length (needL t a1)) ∧ Aside0 (Below w.heap.size w wc))
 case first =>
  go_upto_if 45 with (fail)
  (try simp only [Act.put, setIfInBounds_toArray, set_cons_zero, set_cons_succ])
  by_cases h0 : t = 0
  ·have hb : (t == 0) = true := beq_iff_eq.mpr h0
   (first | rw [hb] | skip)
   have hN : needL t a1 = [n0 0 nA, n1 ⟨#[98]⟩ ⟨#[]⟩, n2 ⟨#[]⟩, n3 0 ⟨#[100]⟩ ⟨#[]⟩] := by unfold needL; rw [if_pos h0]
   have hc : w4.cell? ⟨g, 0, none⟩ = some (.int .i64 (-1)) := (blk_cell HG4.out 0).trans rfl
   have hf := blk_frozen HG4.out 0
   go_wp2
   go_meet
   case rel =>
    rw [hN]
    exact ⟨some ⟨g, 0, none⟩, 4, rfl, ⟨Nat.le_refl 4⟩, ⟨need_C (x0 := n0 0 nA) (blk_put HG4.out 0 _ rfl) (Nat.le_refl 1) (C_of_blk k29 (xs := nA) ((Below.heap_setCell _ _ _ _ HNE.out).trans HA4.out) (Reps.c2 (k29_mk _ _) (Reps.none _ _)) (by decide)) rfl rfl rfl⟩, ⟨HB4.out.setCell (p := ⟨g, 0, none⟩) HGE.out _⟩⟩
  have hb : (t == 0) = false := beq_eq_false_iff_ne.mpr h0
  (first | rw [hb] | skip)
  go_upto_if 50 with (fail)
  (try simp only [Act.put, setIfInBounds_toArray, set_cons_zero, set_cons_succ])
  by_cases h1 : t = 1
  ·have hb : (t == 1) = true := beq_iff_eq.mpr h1
   (first | rw [hb] | skip)
   have hN : needL t a1 = [n0 (-1) nA, n1 ⟨#[49, 98]⟩ ⟨#[]⟩, n2 ⟨#[]⟩, n3 0 ⟨#[100]⟩ ⟨#[]⟩] := by unfold needL; rw [if_neg h0, if_pos h1]
   have hc : w4.cell? ⟨g, 8, none⟩ = some (.string ⟨#[98]⟩) := (blk_cell HG4.out 8).trans rfl
   have hf := blk_frozen HG4.out 8
   go_wp2
   go_meet
   case rel =>
    rw [hN]
    exact ⟨some ⟨g, 0, none⟩, 4, rfl, ⟨Nat.le_refl 4⟩, ⟨need_C (x0 := n0 (-1) nA) (blk_put HG4.out 8 _ rfl) (Nat.le_refl 1) (C_of_blk k29 (xs := nA) ((Below.heap_setCell _ _ _ _ HNE.out).trans HA4.out) (Reps.c2 (k29_mk _ _) (Reps.none _ _)) (by decide)) rfl rfl rfl⟩, ⟨HB4.out.setCell (p := ⟨g, 8, none⟩) HGE.out _⟩⟩
  have hb : (t == 1) = false := beq_eq_false_iff_ne.mpr h1
  (first | rw [hb] | skip)
  go_upto_if 55 with (fail)
  (try simp only [Act.put, setIfInBounds_toArray, set_cons_zero, set_cons_succ])
  by_cases h2 : t = 2
  ·have hb : (t == 2) = true := beq_iff_eq.mpr h2
   (first | rw [hb] | skip)
   have hN : needL t a1 = [n0 (-1) nA, n1 ⟨#[98]⟩ ⟨#[116]⟩, n2 ⟨#[]⟩, n3 0 ⟨#[100]⟩ ⟨#[]⟩] := by unfold needL; rw [if_neg h0, if_neg h1, if_pos h2]
   have hc : w4.cell? ⟨g, 11, none⟩ = some (.string ⟨#[]⟩) := (blk_cell HG4.out 11).trans rfl
   have hf := blk_frozen HG4.out 11
   go_wp2
   go_meet
   case rel =>
    rw [hN]
    exact ⟨some ⟨g, 0, none⟩, 4, rfl, ⟨Nat.le_refl 4⟩, ⟨need_C (x0 := n0 (-1) nA) (blk_put HG4.out 11 _ rfl) (Nat.le_refl 1) (C_of_blk k29 (xs := nA) ((Below.heap_setCell _ _ _ _ HNE.out).trans HA4.out) (Reps.c2 (k29_mk _ _) (Reps.none _ _)) (by decide)) rfl rfl rfl⟩, ⟨HB4.out.setCell (p := ⟨g, 11, none⟩) HGE.out _⟩⟩
  have hb : (t == 2) = false := beq_eq_false_iff_ne.mpr h2
  (first | rw [hb] | skip)
  go_upto_if 60 with (fail)
  (try simp only [Act.put, setIfInBounds_toArray, set_cons_zero, set_cons_succ])
  by_cases h3 : t = 3
  ·have hb : (t == 3) = true := beq_iff_eq.mpr h3
   (first | rw [hb] | skip)
   have hN : needL t a1 = [n0 (-1) nA, n1 ⟨#[98]⟩ ⟨#[]⟩, n2 ⟨#[]⟩, n3 3 ⟨#[100]⟩ ⟨#[]⟩] := by unfold needL; rw [if_neg h0, if_neg h1, if_neg h2, if_pos h3]
   have hc : w4.cell? ⟨g, 18, none⟩ = some (.int .i64 0) := (blk_cell HG4.out 18).trans rfl
   have hf := blk_frozen HG4.out 18
   go_wp2
   go_meet
   case rel =>
    rw [hN]
    exact ⟨some ⟨g, 0, none⟩, 4, rfl, ⟨Nat.le_refl 4⟩, ⟨need_C (x0 := n0 (-1) nA) (blk_put HG4.out 18 _ rfl) (Nat.le_refl 1) (C_of_blk k29 (xs := nA) ((Below.heap_setCell _ _ _ _ HNE.out).trans HA4.out) (Reps.c2 (k29_mk _ _) (Reps.none _ _)) (by decide)) rfl rfl rfl⟩, ⟨HB4.out.setCell (p := ⟨g, 18, none⟩) HGE.out _⟩⟩
  have hb : (t == 3) = false := beq_eq_false_iff_ne.mpr h3
  (first | rw [hb] | skip)
  go_upto_if 65 with (fail)
  (try simp only [Act.put, setIfInBounds_toArray, set_cons_zero, set_cons_succ])
  by_cases h4 : t = 4
  ·have hb : (t == 4) = true := beq_iff_eq.mpr h4
   (first | rw [hb] | skip)
   have hN : needL t a1 = [n0 (-1) nA, n1 ⟨#[98]⟩ ⟨#[]⟩, n2 ⟨#[]⟩, n3 (-1) ⟨#[100]⟩ ⟨#[]⟩] := by unfold needL; rw [if_neg h0, if_neg h1, if_neg h2, if_neg h3, if_pos h4]
   have hc : w4.cell? ⟨g, 18, none⟩ = some (.int .i64 0) := (blk_cell HG4.out 18).trans rfl
   have hf := blk_frozen HG4.out 18
   go_wp2
   go_meet
   case rel =>
    rw [hN]
    exact ⟨some ⟨g, 0, none⟩, 4, rfl, ⟨Nat.le_refl 4⟩, ⟨need_C (x0 := n0 (-1) nA) (blk_put HG4.out 18 _ rfl) (Nat.le_refl 1) (C_of_blk k29 (xs := nA) ((Below.heap_setCell _ _ _ _ HNE.out).trans HA4.out) (Reps.c2 (k29_mk _ _) (Reps.none _ _)) (by decide)) rfl rfl rfl⟩, ⟨HB4.out.setCell (p := ⟨g, 18, none⟩) HGE.out _⟩⟩
  have hb : (t == 4) = false := beq_eq_false_iff_ne.mpr h4
  (first | rw [hb] | skip)
  go_upto_if 70 with (fail)
  (try simp only [Act.put, setIfInBounds_toArray, set_cons_zero, set_cons_succ])
  by_cases h5 : t = 5
  ·have hb : (t == 5) = true := beq_iff_eq.mpr h5
   (first | rw [hb] | skip)
   have hN0 := h5
   have hN : needL t a1 = base4 ++ [n4] := by unfold needL; rw [if_neg h0, if_neg h1, if_neg h2, if_neg h3, if_neg h4, if_pos h5]
   clear hN0 hb h5
   have hRa : Kd.R k29 29 w4 w.heap.size (fun k => True ∧ some k ≠ some g) (.slice (some ⟨ga, 0, none⟩) 1 1) nA := R_blk k29 (xs := nA) HA4.out (Nat.le_of_eq HGa.out.symm) (Reps.c2 (k29_mkM _ _ _ _) (Reps.none _ _)) (by decide) ⟨trivial, fun e => HNE.out (Option.some.inj e)⟩
   have hRn : Kd.R k32 32 w4 w.heap.size (fun _ => True) (.slice (some ⟨g, 0, none⟩) 4 4) base4 := R_blk k32 (xs := base4) HG4.out HGE.out (Reps.c6 (k32_mkM _ _ _ (n0 (-1) nA) hRa) (Reps.c6 (k32_mkM _ _ _ (n1 ⟨#[98]⟩ ⟨#[]⟩) (Kd.R_nil _ _ _ _ _)) (Reps.c6 (k32_mkM _ _ _ (n2 ⟨#[]⟩) (Kd.R_nil _ _ _ _ _)) (Reps.c6 (k32_mkM _ _ _ (n3 0 ⟨#[100]⟩ ⟨#[]⟩) (Kd.R_nil _ _ _ _ _)) (Reps.none _ _))))) (by decide) trivial
   have HRn := Aside0.mk hRn
   clear hRa hRn
   go_wp2_with (at_builtin; refine Kd.R_append k32 (w0 := w) w.heap.size rfl (.tmp 72) (.tmp 74) 22 32 (.agg #[(.int .i64 0), (.int .i64 0), (.string ⟨#[]⟩), (.string ⟨#[]⟩), (.slice none 0 0), (.string ⟨#[]⟩)]) 88 rfl Tryd.underlying22 info32 rfl (by decide) (by omega) (.slice (some ⟨g, 0, none⟩) 4 4) base4 n4 [.int .i64 1, .int .i64 0, .string ⟨#[101]⟩, .string ⟨#[]⟩, .slice none 0 0, .string ⟨#[]⟩] (fun _ => True) (fun _ => False) rfl rfl (k32_mkM _ _ _ n4 (Kd.R_nil _ _ _ _ _)) (fun k hk => hk.elim) (fun _ _ => trivial) HRn.out HB4.out HB4.out.size (by show (4 + 1) * 88 ≤ 140737488355328; omega) ?_; intro v1 w5 hR5 hB5 _ _; have HR5 := Aside0.mk hR5; have HB5 := Aside0.mk hB5; clear hR5 hB5; obtain ⟨A5, c5, rfl, hl5, hC5⟩ := Kd.R_reads HR5.out; have HL5 := Aside0.mk hl5; have HC5 := Aside0.mk hC5; clear hl5 hC5)
   go_meet
   case rel =>
    rw [hN]
    exact ⟨A5, c5, rfl, HL5, HC5, HB5⟩
  have hb : (t == 5) = false := beq_eq_false_iff_ne.mpr h5
  (first | rw [hb] | skip)
  go_upto_if 76 with (fail)
  (try simp only [Act.put, setIfInBounds_toArray, set_cons_zero, set_cons_succ])
  by_cases h6 : t = 6
  ·have hb : (t == 6) = true := beq_iff_eq.mpr h6
   (first | rw [hb] | skip)
   have hN0 := h6
   have hN : needL t a1 = [n0 (-1) (nA ++ [⟨⟨#[120]⟩, ⟨#[]⟩⟩]), n1 ⟨#[98]⟩ ⟨#[]⟩, n2 ⟨#[]⟩, n3 0 ⟨#[100]⟩ ⟨#[]⟩] := by unfold needL; rw [if_neg h0, if_neg h1, if_neg h2, if_neg h3, if_neg h4, if_neg h5, if_pos h6]
   clear hN0 hb h6
   have hc : w4.cell? ⟨g, 4, none⟩ = some (.slice (some ⟨ga, 0, none⟩) 1 1) := (blk_cell HG4.out 4).trans rfl
   have HLt := Aside0.mk (blk_lt HG4.out)
   have HRa := Aside0.mk (show Kd.R k29 29 w4 w.heap.size (fun k => k ≠ g) (.slice (some ⟨ga, 0, none⟩) 1 1) nA from R_blk k29 (xs := nA) HA4.out (Nat.le_of_eq HGa.out.symm) (Reps.c2 (k29_mkM _ _ _ _) (Reps.none _ _)) (by decide) HNE.out)
   go_wp2_with (at_builtin; refine Kd.R_append k29 (w0 := w) w.heap.size rfl (.tmp 82) (.tmp 84) 30 29 (.agg #[(.string ⟨#[]⟩), (.string ⟨#[]⟩)]) 32 rfl Tryd.underlying30 info29 rfl (by decide) (by omega) (.slice (some ⟨ga, 0, none⟩) 1 1) nA ⟨⟨#[120]⟩, ⟨#[]⟩⟩ [.string ⟨#[120]⟩, .string ⟨#[]⟩] (fun k => k ≠ g) (fun _ => False) rfl rfl (k29_mkM _ _ _ _) (fun k hk => hk.elim) (fun k hk => fun e : k = g => by have := HLt.out; omega) HRa.out HB4.out HB4.out.size (by show (1 + 1) * 32 ≤ 140737488355328; omega) ?_; intro v1 w5 hR5 hB5 hgrow _; have HR5 := Aside0.mk hR5; have HB5 := Aside0.mk hB5; have HG5 := Aside0.mk ((hgrow.block g HLt.out (fun e => HNE.out (Option.some.inj e).symm)).trans HG4.out); clear hR5 hB5 hgrow; obtain ⟨A5, c5, rfl, hl5, hC5⟩ := Kd.R_reads HR5.out; have HL5 := Aside0.mk hl5; clear hl5 hC5; have hc5 : w5.cell? ⟨g, 4, none⟩ = some (.slice (some ⟨ga, 0, none⟩) 1 1) := (blk_cell HG5.out 4).trans rfl; have hf5 := blk_frozen HG5.out 4)
   go_meet
   case rel =>
    rw [hN]
    have e1 := Kd.R_far (p := ⟨g, 4, none⟩) HR5.out (fun _ hk => hk) (.slice A5 (nA ++ ([⟨⟨#[120]⟩, ⟨#[]⟩⟩] : List S29)).length c5)
    have e2 := (Kd.R_reads' e1).2.2
    have e3 : (w5.setCell ⟨g, 4, none⟩ (.slice A5 (nA ++ ([⟨⟨#[120]⟩, ⟨#[]⟩⟩] : List S29)).length c5)).heap[g]? = some (.cells (cellsN (n0 (-1) (nA ++ ([⟨⟨#[120]⟩, ⟨#[]⟩⟩] : List S29))) (.slice A5 (nA ++ ([⟨⟨#[120]⟩, ⟨#[]⟩⟩] : List S29)).length c5) ++ (cellsN (n1 ⟨#[98]⟩ ⟨#[]⟩) (.slice none 0 0) ++ (cellsN (n2 ⟨#[]⟩) (.slice none 0 0) ++ cellsN (n3 0 ⟨#[100]⟩ ⟨#[]⟩) (.slice none 0 0)))).toArray 32 (0, 0)) := blk_put HG5.out 4 _ rfl
    have e4 := need_C (x0 := n0 (-1) (nA ++ ([⟨⟨#[120]⟩, ⟨#[]⟩⟩] : List S29))) e3 HL5.out e2 rfl rfl rfl
    exact ⟨some ⟨g, 0, none⟩, 4, rfl, ⟨Nat.le_refl 4⟩, ⟨e4⟩, ⟨HB5.out.setCell (p := ⟨g, 4, none⟩) HGE.out _⟩⟩
  have hb : (t == 6) = false := beq_eq_false_iff_ne.mpr h6
  (first | rw [hb] | skip)
  go_upto_if 88 with (fail)
  (try simp only [Act.put, setIfInBounds_toArray, set_cons_zero, set_cons_succ])
  by_cases h7 : t = 7
  ·have hb : (t == 7) = true := beq_iff_eq.mpr h7
   (first | rw [hb] | skip)
   have hN : needL t a1 = [n0 (-1) nA, n1 ⟨#[98]⟩ ⟨#[]⟩, n2 ⟨#[]⟩, n3 0 ⟨#[97, 58, 98]⟩ ⟨#[]⟩] := by unfold needL; rw [if_neg h0, if_neg h1, if_neg h2, if_neg h3, if_neg h4, if_neg h5, if_neg h6, if_pos h7]
   have hc : w4.cell? ⟨g, 20, none⟩ = some (.string ⟨#[100]⟩) := (blk_cell HG4.out 20).trans rfl
   have hf := blk_frozen HG4.out 20
   go_wp2
   go_meet
   case rel =>
    rw [hN]
    exact ⟨some ⟨g, 0, none⟩, 4, rfl, ⟨Nat.le_refl 4⟩, ⟨need_C (x0 := n0 (-1) nA) (blk_put HG4.out 20 _ rfl) (Nat.le_refl 1) (C_of_blk k29 (xs := nA) ((Below.heap_setCell _ _ _ _ HNE.out).trans HA4.out) (Reps.c2 (k29_mk _ _) (Reps.none _ _)) (by decide)) rfl rfl rfl⟩, ⟨HB4.out.setCell (p := ⟨g, 20, none⟩) HGE.out _⟩⟩
  have hb : (t == 7) = false := beq_eq_false_iff_ne.mpr h7
  (first | rw [hb] | skip)
  go_upto_if 93 with (fail)
  (try simp only [Act.put, setIfInBounds_toArray, set_cons_zero, set_cons_succ])
  by_cases h8 : t = 8
  ·have hb : (t == 8) = true := beq_iff_eq.mpr h8
   (first | rw [hb] | skip)
   have hN0 := h8
   have hN : needL t a1 = [n0 (-1) nA, n1 ⟨#[98]⟩ ⟨#[]⟩, n2 ⟨#[]⟩, n3 0 ⟨#[100]⟩ (oneB ((128 + Int.tmod a1 128) % 256))] := by unfold needL; rw [if_neg h0, if_neg h1, if_neg h2, if_neg h3, if_neg h4, if_neg h5, if_neg h6, if_neg h7, if_pos h8]
   clear hN0 hb h8
   go_wp2_with (first | ((with_reducible refine gate_dst (N := 99) rfl ?_); refine lit_event ?hg (N := 99) ?hd (inner := [.int .u8 ((128 + Int.tmod a1 128) % 256)]) (n := 1) (e := 5) ?hr ?_; (case hd => rfl); (case hg => rfl); (case hr => first | (go_simp; done) | (go_simp; rfl)); intro gr hgr w5 hbox5 hb5; have HG5 := Aside0.mk (blk_below HG4.out hb5); have HA5 := Aside0.mk (blk_below HA4.out hb5); have HB5 := Aside0.mk (below_step HB4.out hb5); have kc := run_convert_bytes_arg (P := Tryd.prog) w5 34 5 Tryd.underlying34 Tryd.underlying5 gr 0 1 1 [(128 + Int.tmod a1 128) % 256] rfl (fun i hi => by obtain rfl : i = 0 := (by omega); exact (blk_cell hbox5 0).trans rfl) 9 Tryd.underlying9; have hc : w5.cell? ⟨g, 23, none⟩ = some (.string ⟨#[]⟩) := (blk_cell HG5.out 23).trans rfl; have hf := blk_frozen HG5.out 23; clear hgr hbox5 hb5))
   go_meet
   case rel =>
    rw [hN]
    exact ⟨some ⟨g, 0, none⟩, 4, rfl, ⟨Nat.le_refl 4⟩, ⟨need_C (x0 := n0 (-1) nA) (blk_put HG5.out 23 _ rfl) (Nat.le_refl 1) (C_of_blk k29 (xs := nA) ((Below.heap_setCell _ _ _ _ HNE.out).trans HA5.out) (Reps.c2 (k29_mk _ _) (Reps.none _ _)) (by decide)) rfl rfl rfl⟩, ⟨HB5.out.setCell (p := ⟨g, 23, none⟩) HGE.out _⟩⟩
  have hb : (t == 8) = false := beq_eq_false_iff_ne.mpr h8
  (first | rw [hb] | skip)
  go_upto_if 103 with (fail)
  (try simp only [Act.put, setIfInBounds_toArray, set_cons_zero, set_cons_succ])
  by_cases h9 : t = 9
  ·have hb : (t == 9) = true := beq_iff_eq.mpr h9
   (first | rw [hb] | skip)
   have hN0 := h9
   have hN : needL t a1 = [n0 (-1) [⟨⟨#[120]⟩, ⟨#[1]⟩⟩], n1 ⟨#[98]⟩ ⟨#[]⟩, n2 ⟨#[]⟩, n3 0 ⟨#[100]⟩ ⟨#[]⟩] := by unfold needL; rw [if_neg h0, if_neg h1, if_neg h2, if_neg h3, if_neg h4, if_neg h5, if_neg h6, if_neg h7, if_neg h8, if_pos h9]
   clear hN0 hb h9
   go_wp2_with fail
   refine start_ (n := 9) (S := fun w' => w'.cell? ⟨g, 4, none⟩ = some (.slice (some ⟨ga, 0, none⟩) 1 1)) (ds := [8]) #[false, false, false, false, false, false, false, false, false] (by kernel_rfl) rfl rfl ((blk_cell HG4.out 4).trans rfl) (fun hHeld => ?_)
   refine pure_ (i := 0) (N := some 105) (v := ?_) (a' := ?_) #[true, false, false, false, false, false, false, false, false] rfl rfl (by kernel_rfl) (fun _ _ _ h => h) (Or.inl ⟨by rfl, ?_⟩) ?_ ?_
   rotate_left
   ·intro w'
    go_simp
    with_reducible rfl
   rotate_left
   ·simp only [Act.put, setIfInBounds_toArray, set_cons_zero, set_cons_succ, i64_w, i32_w]
    rfl
   refine pure_ (i := 1) (N := some 106) (v := ?_) (a' := ?_) #[true, true, false, false, false, false, false, false, false] rfl rfl (by kernel_rfl) (fun _ _ _ h => h) (Or.inl ⟨by rfl, ?_⟩) ?_ ?_
   rotate_left
   ·intro w'
    go_simp
    with_reducible rfl
   rotate_left
   ·simp only [Act.put, setIfInBounds_toArray, set_cons_zero, set_cons_succ, i64_w, i32_w]
    rfl
   refine pure_ (i := 2) (N := some 107) (v := ?_) (a' := ?_) #[true, true, true, false, false, false, false, false, false] rfl rfl (by kernel_rfl) (fun _ _ _ h => h) (Or.inl ⟨by rfl, ?_⟩) ?_ ?_
   rotate_left
   ·intro w'
    go_simp
    with_reducible rfl
   rotate_left
   ·simp only [Act.put, setIfInBounds_toArray, set_cons_zero, set_cons_succ, i64_w, i32_w]
    rfl
   refine take_ (i := 3) (N := some 108) (v := ?_) (a' := ?_) #[true, true, true, true, false, false, false, false, false] rfl rfl (by kernel_rfl) (fun _ _ _ h => h) (Or.inl ⟨by rfl, ?_⟩) hHeld ?_ ?_
   rotate_left
   ·intro w' s0
    go_simp
    with_reducible rfl
   rotate_left
   ·simp only [Act.put, setIfInBounds_toArray, set_cons_zero, set_cons_succ, i64_w, i32_w]
    rfl
   refine one_ (i := 4) (N := some 109) #[true, true, true, true, true, false, false, false, false] rfl rfl (by kernel_rfl) (by decide) (fun K hK => ?_)
   refine lit_step (by rfl) (N := 109) (by rfl) (inner := [.int .u8 1]) (n := 1) (e := 5) ?hr ?_
   (case hr => first | (go_simp; done) | (go_simp; rfl))
   intro gr hgr w5 hbox5 hb5
   have HG5 := Aside0.mk (blk_below (blk_drew HG4.out) hb5)
   have HA5 := Aside0.mk (blk_below (blk_drew HA4.out) hb5)
   have HB5 := Aside0.mk (below_step (below_drew HB4.out) hb5)
   have kc := run_convert_bytes_arg (P := Tryd.prog) w5 34 5 Tryd.underlying34 Tryd.underlying5 gr 0 1 1 [1] rfl (fun i hi => by obtain rfl : i = 0 := (by omega); exact (blk_cell hbox5 0).trans rfl) 9 Tryd.underlying9
   have hc : w5.cell? ⟨ga, 1, none⟩ = some (.string ⟨#[49]⟩) := (blk_cell HA5.out 1).trans rfl
   have hf := blk_frozen HA5.out 1
   clear hgr hbox5 hb5
   refine hK.out _ _ ((blk_cell HG5.out 4).trans rfl) (fun hHeld => ?_)
   clear hK K
   refine norm_ (a' := ?_) ?_ ?_
   rotate_left
   ·show Act.put _ (some 109) _ = _
    simp only [Act.put, setIfInBounds_toArray, set_cons_zero, set_cons_succ, i64_w, i32_w]
    rfl
   refine one_ (i := 5) (N := some 110) #[true, true, true, true, true, true, false, false, false] rfl rfl (by kernel_rfl) (by decide) (fun K hK => ?_)
   refine value_ (w1 := ?_) (v := ?_) (by rfl) rfl ?_ ?_
   rotate_left 2
   ·go_simp
    constructor
    ·rfl
    rfl
   refine hK.out _ _ ((blk_cell HG5.out 4).trans rfl) (fun hHeld => ?_)
   clear hK K
   refine norm_ (a' := ?_) ?_ ?_
   rotate_left
   ·show Act.put _ (some 110) _ = _
    simp only [Act.put, setIfInBounds_toArray, set_cons_zero, set_cons_succ, i64_w, i32_w]
    rfl
   refine pure_ (i := 6) (N := some 111) (v := ?_) (a' := ?_) #[true, true, true, true, true, true, true, false, false] rfl rfl (by kernel_rfl) (fun _ _ _ h => h) (Or.inl ⟨by rfl, ?_⟩) ?_ ?_
   rotate_left
   ·intro w'
    go_simp
    with_reducible rfl
   rotate_left
   ·simp only [Act.put, setIfInBounds_toArray, set_cons_zero, set_cons_succ, i64_w, i32_w]
    rfl
   refine pure_ (i := 7) (N := some 112) (v := ?_) (a' := ?_) #[true, true, true, true, true, true, true, true, false] rfl rfl (by kernel_rfl) (fun _ _ _ h => h) (Or.inl ⟨by rfl, ?_⟩) ?_ ?_
   rotate_left
   ·intro w'
    go_simp
    with_reducible rfl
   rotate_left
   ·simp only [Act.put, setIfInBounds_toArray, set_cons_zero, set_cons_succ, i64_w, i32_w]
    rfl
   refine last_ (i := 8) (N := none) #[true, true, true, true, true, true, true, true, true] rfl rfl (by kernel_rfl) (by decide) (fun K hK => ?_)
   refine skip_ (w1 := ?_) (by rfl) rfl ?_ ?_
   rotate_left
   ·go_simp
    rfl
   refine hK.out _ _ ?_
   clear hK K
   refine done_ (by kernel_rfl) ?_
   go_wp2
   go_meet
   case rel =>
    rw [hN]
    exact ⟨some ⟨g, 0, none⟩, 4, rfl, ⟨Nat.le_refl 4⟩, ⟨need_C (x0 := n0 (-1) [⟨⟨#[120]⟩, ⟨#[1]⟩⟩]) ((Below.heap_setCell _ _ _ _ (fun e => HNE.out e.symm)).trans HG5.out) (Nat.le_refl 1) (C_of_blk k29 (xs := [⟨⟨#[120]⟩, ⟨#[1]⟩⟩]) (inner := [.string ⟨#[120]⟩, .string ⟨#[1]⟩]) (blk_put HA5.out 1 _ rfl) (Reps.c2 (k29_mk _ _) (Reps.none _ _)) (by decide)) rfl rfl rfl⟩, ⟨HB5.out.setCell (p := ⟨ga, 1, none⟩) (Nat.le_of_eq HGa.out.symm) _⟩⟩
  have hb : (t == 9) = false := beq_eq_false_iff_ne.mpr h9
  (first | rw [hb] | skip)
  go_upto_if 113 with (fail)
  (try simp only [Act.put, setIfInBounds_toArray, set_cons_zero, set_cons_succ])
  by_cases h10 : t = 10
  ·have hb : (t == 10) = true := beq_iff_eq.mpr h10
   (first | rw [hb] | skip)
   have hN0 := h10
   have hN : needL t a1 = [n0 (-1) [⟨⟨#[120, 109, 108, 110, 115]⟩, ⟨#[49]⟩⟩], n1 ⟨#[98]⟩ ⟨#[]⟩, n2 ⟨#[]⟩, n3 0 ⟨#[100]⟩ ⟨#[]⟩] := by unfold needL; rw [if_neg h0, if_neg h1, if_neg h2, if_neg h3, if_neg h4, if_neg h5, if_neg h6, if_neg h7, if_neg h8, if_neg h9, if_pos h10]
   clear hN0 hb h10
   have hc : w4.cell? ⟨g, 4, none⟩ = some (.slice (some ⟨ga, 0, none⟩) 1 1) := (blk_cell HG4.out 4).trans rfl
   have hc2 : w4.cell? ⟨ga, 0, none⟩ = some (.string ⟨#[120]⟩) := (blk_cell HA4.out 0).trans rfl
   have hf := blk_frozen HA4.out 0
   go_wp2
   go_meet
   case rel =>
    rw [hN]
    exact ⟨some ⟨g, 0, none⟩, 4, rfl, ⟨Nat.le_refl 4⟩, ⟨need_C (x0 := n0 (-1) [⟨⟨#[120, 109, 108, 110, 115]⟩, ⟨#[49]⟩⟩]) ((Below.heap_setCell _ _ _ _ (fun e => HNE.out e.symm)).trans HG4.out) (Nat.le_refl 1) (C_of_blk k29 (xs := [⟨⟨#[120, 109, 108, 110, 115]⟩, ⟨#[49]⟩⟩]) (inner := [.string ⟨#[120, 109, 108, 110, 115]⟩, .string ⟨#[49]⟩]) (blk_put HA4.out 0 _ rfl) (Reps.c2 (k29_mk _ _) (Reps.none _ _)) (by decide)) rfl rfl rfl⟩, ⟨HB4.out.setCell (p := ⟨ga, 0, none⟩) (Nat.le_of_eq HGa.out.symm) _⟩⟩
  have hb : (t == 10) = false := beq_eq_false_iff_ne.mpr h10
  (first | rw [hb] | skip)
  go_upto_if 121 with (fail)
  (try simp only [Act.put, setIfInBounds_toArray, set_cons_zero, set_cons_succ])
  by_cases h11 : t = 11
  ·have hb : (t == 11) = true := beq_iff_eq.mpr h11
   (first | rw [hb] | skip)
   have hN0 := h11
   have hN : needL t a1 = [n0 (-1) nA, n1 ⟨#[98]⟩ ⟨#[]⟩, n2 ⟨#[255]⟩, n3 0 ⟨#[100]⟩ ⟨#[]⟩] := by unfold needL; rw [if_neg h0, if_neg h1, if_neg h2, if_neg h3, if_neg h4, if_neg h5, if_neg h6, if_neg h7, if_neg h8, if_neg h9, if_neg h10, if_pos h11]
   clear hN0 hb h11
   go_wp2_with (first | ((with_reducible refine gate_dst (N := 124) rfl ?_); refine lit_event ?hg (N := 124) ?hd (inner := [.int .u8 (255)]) (n := 1) (e := 5) ?hr ?_; (case hd => rfl); (case hg => rfl); (case hr => first | (go_simp; done) | (go_simp; rfl)); intro gr hgr w5 hbox5 hb5; have HG5 := Aside0.mk (blk_below HG4.out hb5); have HA5 := Aside0.mk (blk_below HA4.out hb5); have HB5 := Aside0.mk (below_step HB4.out hb5); have kc := run_convert_bytes_arg (P := Tryd.prog) w5 34 5 Tryd.underlying34 Tryd.underlying5 gr 0 1 1 [255] rfl (fun i hi => by obtain rfl : i = 0 := (by omega); exact (blk_cell hbox5 0).trans rfl) 9 Tryd.underlying9; have hc : w5.cell? ⟨g, 15, none⟩ = some (.string ⟨#[]⟩) := (blk_cell HG5.out 15).trans rfl; have hf := blk_frozen HG5.out 15; clear hgr hbox5 hb5))
   go_meet
   case rel =>
    rw [hN]
    exact ⟨some ⟨g, 0, none⟩, 4, rfl, ⟨Nat.le_refl 4⟩, ⟨need_C (x0 := n0 (-1) nA) (blk_put HG5.out 15 _ rfl) (Nat.le_refl 1) (C_of_blk k29 (xs := nA) ((Below.heap_setCell _ _ _ _ HNE.out).trans HA5.out) (Reps.c2 (k29_mk _ _) (Reps.none _ _)) (by decide)) rfl rfl rfl⟩, ⟨HB5.out.setCell (p := ⟨g, 15, none⟩) HGE.out _⟩⟩
  have hb : (t == 11) = false := beq_eq_false_iff_ne.mpr h11
  (first | rw [hb] | skip)
  have hN0 := h11
  have hN : needL t a1 = [n0 (-1) (manyA 9), n1 ⟨#[98]⟩ ⟨#[]⟩, n2 ⟨#[]⟩, n3 0 ⟨#[100]⟩ ⟨#[]⟩] := by unfold needL; rw [if_neg h0, if_neg h1, if_neg h2, if_neg h3, if_neg h4, if_neg h5, if_neg h6, if_neg h7, if_neg h8, if_neg h9, if_neg h10, if_neg h11]
  clear hN0
  go_wp2
  go_loopg [6] 10 (fun gk v6 wr => ∃ (i : Nat) (A : Option Addr) (c : Nat), v6 = .int .i64 (i : Int) ∧ i ≤ 9 ∧ 9 < gk + i ∧ Aside0 (wr.heap[g]? = some (.cells (cellsN (n0 (-1) (manyA i)) (.slice A (manyA i).length c) ++ (cellsN (n1 ⟨#[98]⟩ ⟨#[]⟩) (.slice none 0 0) ++ (cellsN (n2 ⟨#[]⟩) (.slice none 0 0) ++ cellsN (n3 0 ⟨#[100]⟩ ⟨#[]⟩) (.slice none 0 0)))).toArray 32 (0, 0))) ∧ Aside0 (Kd.R k29 29 wr w.heap.size (fun k => k ≠ g) (.slice A (manyA i).length c) (manyA i)) ∧ Aside0 (Below w.heap.size w wr))
  case atStart => exact ⟨0, some ⟨ga, 0, none⟩, 1, rfl, by omega, by omega, HG4, ⟨R_blk k29 (xs := nA) HA4.out (Nat.le_of_eq HGa.out.symm) (Reps.c2 (k29_mkM _ _ _ _) (Reps.none _ _)) (by decide) HNE.out⟩, HB4⟩
  case round =>
   obtain ⟨i, A, c, rfl, hi9, hgk, HG, HR, HB⟩ := hrel
   clear HG4 HA4 HB4
   by_cases hlt : i < 9
   ·have hltz : (i : Int) < 9 := by omega
    obtain ⟨k', rfl⟩ : ∃ m, gk = m + 1 := ⟨gk - 1, by omega⟩
    go_wp2_with fail
    refine start_ (n := 16) (S := fun w' => w'.cell? ⟨g, 4, none⟩ = some (.slice A (manyA i).length c)) (ds := [12, 15]) #[false, false, false, false, false, false, false, false, false, false, false, false, false, false, false, false] (by kernel_rfl) rfl rfl ((blk_cell HG.out 4).trans rfl) (fun hHeld => ?_)
    refine pure_ (i := 0) (N := some 30) (v := ?_) (a' := ?_) #[true, false, false, false, false, false, false, false, false, false, false, false, false, false, false, false] rfl rfl (by kernel_rfl) (fun _ _ _ h => h) (Or.inl ⟨by rfl, ?_⟩) ?_ ?_
    rotate_left
    ·intro w'
     go_simp
     with_reducible rfl
    rotate_left
    ·simp only [Act.put, setIfInBounds_toArray, set_cons_zero, set_cons_succ, i64_w, i32_w]
     rfl
    refine pure_ (i := 1) (N := some 31) (v := ?_) (a' := ?_) #[true, true, false, false, false, false, false, false, false, false, false, false, false, false, false, false] rfl rfl (by kernel_rfl) (fun _ _ _ h => h) (Or.inl ⟨by rfl, ?_⟩) ?_ ?_
    rotate_left
    ·intro w'
     go_simp
     with_reducible rfl
    rotate_left
    ·simp only [Act.put, setIfInBounds_toArray, set_cons_zero, set_cons_succ, i64_w, i32_w]
     rfl
    refine pure_ (i := 2) (N := some 32) (v := ?_) (a' := ?_) #[true, true, true, false, false, false, false, false, false, false, false, false, false, false, false, false] rfl rfl (by kernel_rfl) (fun _ _ _ h => h) (Or.inl ⟨by rfl, ?_⟩) ?_ ?_
    rotate_left
    ·intro w'
     go_simp
     with_reducible rfl
    rotate_left
    ·simp only [Act.put, setIfInBounds_toArray, set_cons_zero, set_cons_succ, i64_w, i32_w]
     rfl
    refine pure_ (i := 3) (N := some 33) (v := ?_) (a' := ?_) #[true, true, true, true, false, false, false, false, false, false, false, false, false, false, false, false] rfl rfl (by kernel_rfl) (fun _ _ _ h => h) (Or.inl ⟨by rfl, ?_⟩) ?_ ?_
    rotate_left
    ·intro w'
     go_simp
     with_reducible rfl
    rotate_left
    ·simp only [Act.put, setIfInBounds_toArray, set_cons_zero, set_cons_succ, i64_w, i32_w]
     rfl
    refine pure_ (i := 5) (N := some 35) (v := ?_) (a' := ?_) #[true, true, true, true, false, true, false, false, false, false, false, false, false, false, false, false] rfl rfl (by kernel_rfl) (fun _ _ _ h => h) (Or.inl ⟨by rfl, ?_⟩) ?_ ?_
    rotate_left
    ·intro w'
     go_simp
     with_reducible rfl
    rotate_left
    ·simp only [Act.put, setIfInBounds_toArray, set_cons_zero, set_cons_succ, i64_w, i32_w]
     rfl
    refine pure_ (i := 6) (N := some 36) (v := ?_) (a' := ?_) #[true, true, true, true, false, true, true, false, false, false, false, false, false, false, false, false] rfl rfl (by kernel_rfl) (fun _ _ _ h => h) (Or.inl ⟨by rfl, ?_⟩) ?_ ?_
    rotate_left
    ·intro w'
     go_simp
     with_reducible rfl
    rotate_left
    ·simp only [Act.put, setIfInBounds_toArray, set_cons_zero, set_cons_succ, i64_w, i32_w]
     rfl
    refine pure_ (i := 7) (N := some 37) (v := ?_) (a' := ?_) #[true, true, true, true, false, true, true, true, false, false, false, false, false, false, false, false] rfl rfl (by kernel_rfl) (fun _ _ _ h => h) (Or.inl ⟨by rfl, ?_⟩) ?_ ?_
    rotate_left
    ·intro w'
     go_simp
     with_reducible rfl
    rotate_left
    ·simp only [Act.put, setIfInBounds_toArray, set_cons_zero, set_cons_succ, i64_w, i32_w]
     rfl
    refine take_ (i := 4) (N := some 34) (v := ?_) (a' := ?_) #[true, true, true, true, true, true, true, true, false, false, false, false, false, false, false, false] rfl rfl (by kernel_rfl) (fun _ _ _ h => h) (Or.inl ⟨by rfl, ?_⟩) hHeld ?_ ?_
    rotate_left
    ·intro w' s0
     go_simp
     with_reducible rfl
    rotate_left
    ·simp only [Act.put, setIfInBounds_toArray, set_cons_zero, set_cons_succ, i64_w, i32_w]
     rfl
    refine one_ (i := 8) (N := some 38) #[true, true, true, true, true, true, true, true, true, false, false, false, false, false, false, false] rfl rfl (by kernel_rfl) (by decide) (fun K hK => ?_)
    refine lit_step (by rfl) (N := 38) (by rfl) (inner := [.int .u8 (IntKind.u8.wrap (97 + IntKind.u8.wrap (i : Int)))]) (n := 1) (e := 5) ?hr ?_
    (case hr => first | (go_simp; done) | (go_simp; rfl))
    intro gr hgr w5 hbox5 hb5
    have HG5 := Aside0.mk (blk_below (blk_drew HG.out) hb5)
    have HR5 := Aside0.mk (Kd.R_below (Kd.R_drew HR.out) hb5)
    have HB5 := Aside0.mk (below_step (below_drew HB.out) hb5)
    have kc := run_convert_bytes_arg (P := Tryd.prog) w5 34 5 Tryd.underlying34 Tryd.underlying5 gr 0 1 1 [IntKind.u8.wrap (97 + IntKind.u8.wrap (i : Int))] rfl (fun i hi => by obtain rfl : i = 0 := (by omega); exact (blk_cell hbox5 0).trans rfl) 9 Tryd.underlying9
    clear hgr hbox5 hb5
    refine hK.out _ _ ((blk_cell HG5.out 4).trans rfl) (fun hHeld => ?_)
    clear hK K
    refine norm_ (a' := ?_) ?_ ?_
    rotate_left
    ·show Act.put _ (some 38) _ = _
     simp only [Act.put, setIfInBounds_toArray, set_cons_zero, set_cons_succ, i64_w, i32_w]
     rfl
    refine one_ (i := 9) (N := some 39) #[true, true, true, true, true, true, true, true, true, true, false, false, false, false, false, false] rfl rfl (by kernel_rfl) (by decide) (fun K hK => ?_)
    refine value_ (w1 := ?_) (v := ?_) (by rfl) rfl ?_ ?_
    rotate_left 2
    ·go_simp
     constructor
     ·rfl
     rfl
    refine hK.out _ _ ((blk_cell HG5.out 4).trans rfl) (fun hHeld => ?_)
    clear hK K
    refine norm_ (a' := ?_) ?_ ?_
    rotate_left
    ·show Act.put _ (some 39) _ = _
     simp only [Act.put, setIfInBounds_toArray, set_cons_zero, set_cons_succ, i64_w, i32_w]
     rfl
    refine pure_ (i := 10) (N := some 40) (v := ?_) (a' := ?_) #[true, true, true, true, true, true, true, true, true, true, true, false, false, false, false, false] rfl rfl (by kernel_rfl) (fun _ _ _ h => h) (Or.inl ⟨by rfl, ?_⟩) ?_ ?_
    rotate_left
    ·intro w'
     go_simp
     with_reducible rfl
    rotate_left
    ·simp only [Act.put, setIfInBounds_toArray, set_cons_zero, set_cons_succ, i64_w, i32_w]
     rfl
    refine one_ (i := 11) (N := some 41) #[true, true, true, true, true, true, true, true, true, true, true, true, false, false, false, false] rfl rfl (by kernel_rfl) (by decide) (fun K hK => ?_)
    refine value_ (w1 := ?_) (v := ?_) (by rfl) rfl ?_ ?_
    rotate_left 2
    ·go_simp
     constructor
     ·rfl
     rfl
    refine hK.out _ _ ((blk_cell (blk_below HG5.out (below_alloc (Below.refl _ _) _)) 4).trans rfl) (fun hHeld => ?_)
    clear hK K
    refine norm_ (a' := ?_) ?_ ?_
    rotate_left
    ·show Act.put _ (some 41) _ = _
     simp only [Act.put, setIfInBounds_toArray, set_cons_zero, set_cons_succ, i64_w, i32_w]
     rfl
    refine last_ (i := 12) (N := some 42) #[true, true, true, true, true, true, true, true, true, true, true, true, true, false, false, false] rfl rfl (by kernel_rfl) (by decide) (fun K hK => ?_)
    refine Kd.R_append_step k29 (w0 := w) w.heap.size rfl (.tmp 34) (.tmp 41) 30 29 (.agg #[(.string ⟨#[]⟩), (.string ⟨#[]⟩)]) 32 rfl Tryd.underlying30 info29 rfl (by decide) (by omega) (.slice A (manyA i).length c) (manyA i) ⟨oneB (IntKind.u8.wrap (97 + IntKind.u8.wrap (i : Int))), ⟨#[]⟩⟩ [.string (oneB (IntKind.u8.wrap (97 + IntKind.u8.wrap (i : Int)))), .string ⟨#[]⟩] (fun k => k ≠ g) (fun _ => False) rfl rfl (k29_mkM _ _ _ _) (fun k hk => hk.elim) (fun k hk => fun e : k = g => by have := blk_lt HG5.out; omega) HR5.out HB5.out (below_size HB5.out) (by rw [manyA_len]; omega) ?_
    intro v1 w6 ho6 hb6 hg6 hat6
    obtain ⟨A6, c6, rfl, hl6, hC6⟩ := Kd.R_reads ho6
    have HL6 := Aside0.mk hl6
    clear hl6 hC6
    have HR6 := Aside0.mk ho6
    have HB6 := Aside0.mk hb6
    have HG6 := Aside0.mk ((hg6.block g (blk_lt HG5.out) (fun e => HR5.out.1 g e.symm rfl)).trans HG5.out)
    clear ho6 hb6 hg6 hat6
    have hc6 : w6.cell? ⟨g, 4, none⟩ = some (.slice A (manyA i).length c) := (blk_cell HG6.out 4).trans rfl
    have hf6 := blk_frozen HG6.out 4
    refine hK.out _ _ ?_
    clear hK K
    refine norm_ (a' := ?_) ?_ ?_
    rotate_left
    ·show Act.put _ (some 42) _ = _
     simp only [Act.put, setIfInBounds_toArray, set_cons_zero, set_cons_succ, i64_w, i32_w]
     rfl
    refine pure_ (i := 13) (N := some 43) (v := ?_) (a' := ?_) #[true, true, true, true, true, true, true, true, true, true, true, true, true, true, false, false] rfl rfl (by kernel_rfl) (fun _ _ _ h => h) (Or.inl ⟨by rfl, ?_⟩) ?_ ?_
    rotate_left
    ·intro w'
     go_simp
     with_reducible rfl
    rotate_left
    ·simp only [Act.put, setIfInBounds_toArray, set_cons_zero, set_cons_succ, i64_w, i32_w]
     rfl
    refine pure_ (i := 14) (N := some 44) (v := ?_) (a' := ?_) #[true, true, true, true, true, true, true, true, true, true, true, true, true, true, true, false] rfl rfl (by kernel_rfl) (fun _ _ _ h => h) (Or.inl ⟨by rfl, ?_⟩) ?_ ?_
    rotate_left
    ·intro w'
     go_simp
     with_reducible rfl
    rotate_left
    ·simp only [Act.put, setIfInBounds_toArray, set_cons_zero, set_cons_succ, i64_w, i32_w]
     rfl
    refine last_ (i := 15) (N := none) #[true, true, true, true, true, true, true, true, true, true, true, true, true, true, true, true] rfl rfl (by kernel_rfl) (by decide) (fun K hK => ?_)
    refine skip_ (w1 := ?_) (by rfl) rfl ?_ ?_
    rotate_left
    ·go_simp
     rfl
    refine hK.out _ _ ?_
    clear hK K
    refine done_ (by kernel_rfl) ?_
    go_wp2
    go_roundg k'
    case measure => omega
    case rel =>
     have hm : (manyA (i + 1)).length = (manyA i).length + 1 := by rw [manyA_len, manyA_len]
     refine ⟨i + 1, A6, c6, congrArg (Value.int .i64) (by first | omega | (unfold wrap64; omega)), by omega, by omega, ?_, ?_, ⟨HB6.out.setCell (p := ⟨g, 4, none⟩) HGE.out _⟩⟩
     ·rw [hm]; exact ⟨blk_put HG6.out 4 _ rfl⟩
     exact ⟨Kd.R_far (p := ⟨g, 4, none⟩) HR6.out (fun _ hk => hk) _⟩
   obtain rfl : i = 9 := by omega
   go_wp2
   go_meet
   case rel =>
    rw [hN]
    have hR9 := HR.out
    exact ⟨some ⟨g, 0, none⟩, 4, rfl, ⟨Nat.le_refl 4⟩, ⟨need_C (x0 := n0 (-1) (manyA 9)) HG.out (Kd.R_reads' hR9).2.1 (Kd.R_reads' hR9).2.2 rfl rfl rfl⟩, HB⟩
 case rest =>
  obtain ⟨A5, c5, rfl, HL5, HC5, HB5⟩ := hcut
  clear HG4 HA4 HB4
  go_wp2_with (first | (go_at_call 7; (refine (canon_Write.calls k _ _ _ e1 e2 _ HC5.out HL5.out HW.out (tabs_b HT.out HB5.out)).mono ?_); rintro e w6 ⟨rfl, hb6⟩; have HB6 := Aside0.mk (below_step HB5.out hb6); have HC6 := Aside0.mk (Kd.C_below HC5.out hb6); clear hb6) | (go_at_call 9; (refine (canon_Right.calls k _ _ _ false _ HC6.out HL5.out HQ.out (tabs_b HT.out HB6.out)).mono ?_); rintro e w7 ⟨rfl, hb7⟩; have HB7 := Aside0.mk (below_step HB6.out hb7); clear hb7))
  go_ret
  exact ⟨congrArg (fun b => Ending.returned (.bool b)) HE.out, HB7.out⟩
end Go.Proofs.YtgacmniagmfckaaDoor.Q
