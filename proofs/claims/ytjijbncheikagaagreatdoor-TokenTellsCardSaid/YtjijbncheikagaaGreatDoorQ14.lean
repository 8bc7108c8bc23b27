-- Written by hookprint.py (wip/) of this session: the kit's print with hand-proved functions beside it. Not trusted: Lean checks it.
import Derived.Test.YtjijbncheikagaaGreatDoorQ0
import Derived.Test.YtjijbncheikagaaGreatDoorQ8
import Derived.Test.YtjijbncheikagaaGreatDoorQ9
import Derived.Test.YtjijbncheikagaaGreatDoorQ11
import Derived.Test.YtjijbncheikagaaGreatDoorQ13
namespace Go.Proofs.YtjijbncheikagaaGreatDoor.Q
open List (setIfInBounds_toArray set_cons_zero set_cons_succ)
open Go.RowKit Go.Lib Go.Proofs.YtjijbncheikagaaGreatDoorX Go.Proofs.YtjijbncheikagaaGreatDoorW.PrintWords Go.Proofs.YtjijbncheikagaaGreatDoorW.PrintLast Go.Proofs.YtjijbncheikagaaGreatDoorW.PrintMore
set_option linter.unusedVariables false
set_option linter.unusedSimpArgs false
def cardexref08_walk_token.l0 : Nat → Int → ByteArray → Int → Int → Int → ByteArray → ByteArray → Bool → Option (Int × Int × ByteArray × ByteArray × (List (S45)) × Bool × Bool × ByteArray × Int)
  | 0, _, _, _, _, _, _, _, _ => none
  | k + 1, x5, x1000, x1001, x382000, x382001, x382002, x382003, x382005 => if x1001 < (x1000.size : Int) then (if 0 ≤ x1001 then (if (bt x1000 x1001) = 60 then (if 0 ≤ x5 then (if x5 ≤ x1001 then (if x1001 ≤ (x1000.size : Int) then ((cardexref01_Back.f k (x1000.extract (x5 : Int).toNat (x1001 : Int).toNat)).bind fun bt409 => (some (3, x382001, x382002, bt409.1, ([] : List (S45)), x382005, (bt409.2 == 0), x1000, x1001))) else (none)) else (none)) else (none)) else (cardexref08_walk_token.l0 k x5 x1000 (wrap64 (x1001 + 1)) x382000 x382001 x382002 x382003 x382005)) else (none)) else (if 0 ≤ x5 then (if x5 ≤ x1001 then (if x1001 ≤ (x1000.size : Int) then ((cardexref01_Back.f k (x1000.extract (x5 : Int).toNat (x1001 : Int).toNat)).bind fun bt412 => (some (3, x382001, x382002, bt412.1, ([] : List (S45)), x382005, (bt412.2 == 0), x1000, x1001))) else (none)) else (none)) else (none))
def cardexref08_walk_token.f (k : Nat) (s0_0 : ByteArray) (s0_1 : Int) : Option (Int × Int × ByteArray × ByteArray × (List (S45)) × Bool × Bool × ByteArray × Int) := (cardexref08_walk_is.f s0_0 s0_1 (⟨#[60, 47]⟩ : ByteArray)).bind fun bt382 => (if bt382.1 = true then ((cardexref08_walk_name.f k bt382.2.1 bt382.2.2).bind fun bt385 => ((cardexref08_walk_blanks.f k bt385.2.1 bt385.2.2).bind fun bt388 => (if bt385.1.toList = ([] : List UInt8) then (some (2, s0_1, bt385.1, (⟨#[]⟩ : ByteArray), ([] : List (S45)), false, false, bt388.2.1, bt388.2.2)) else ((cardexref08_walk_is.f bt388.2.1 bt388.2.2 (⟨#[62]⟩ : ByteArray)).bind fun bt391 => (some (2, s0_1, bt385.1, (⟨#[]⟩ : ByteArray), ([] : List (S45)), false, bt391.1, bt391.2.1, bt391.2.2)))))) else ((cardexref08_walk_is.f bt382.2.1 bt382.2.2 (⟨#[60]⟩ : ByteArray)).bind fun bt394 => (if bt394.1 = true then ((cardexref08_walk_open.f k bt394.2.1 bt394.2.2 0 s0_1 (⟨#[]⟩ : ByteArray) (⟨#[]⟩ : ByteArray) ([] : List (S45)) false).bind fun bt397 => (some (bt397.1, bt397.2.1, bt397.2.2.1, bt397.2.2.2.1, bt397.2.2.2.2.1, bt397.2.2.2.2.2.1, bt397.2.2.2.2.2.2.1, bt397.2.2.2.2.2.2.2.1, bt397.2.2.2.2.2.2.2.2))) else (cardexref08_walk_token.l0 k bt394.2.2 bt394.2.1 bt394.2.2 0 s0_1 (⟨#[]⟩ : ByteArray) (⟨#[]⟩ : ByteArray) false))))
def cardexref08_walk_token.T5 : Bool × List (List Nat × List Nat) := (true, [([], []), ([], []), ([1], [1]), ([2], [2]), ([3], [3]), ([4], [4]), ([5, 4, 4], [4, 5]), ([4, 6], [4, 6]), ([0, 6, 0], [0]), ([7, 8, 0, 1, 2, 3, 4, 5, 6, 7, 8], [7])])
def cardexref08_walk_token.B5 : List Nat := [0, 0, 2, 6, 14, 30, 62, 126, 127, 511]
theorem cardexref08_walk_token.tab5 : rtab .any (opsOf Tryz.f15 5) = cardexref08_walk_token.T5 := by kernel_rfl
theorem cardexref08_walk_token.bits5 : waitsOk cardexref08_walk_token.T5.2 cardexref08_walk_token.B5 = true := by kernel_rfl
def cardexref08_walk_token.T9 : Bool × List (List Nat × List Nat) := (true, [([], []), ([0], [0]), ([1], [1]), ([2], [2]), ([], []), ([4], [4]), ([5], [5]), ([6], [6]), ([7], [7]), ([3, 8], [3, 8]), ([9], [9]), ([10], [10]), ([11, 10], [10, 11]), ([12, 10], [10, 12]), ([13, 10], [10, 13]), ([10], [10]), ([15, 10], [10, 15]), ([16, 10], [10, 16]), ([17, 10], [10, 17]), ([14, 18, 10], [10, 14, 18]), ([19, 10], [10, 19]), ([10, 20], [10, 20])])
def cardexref08_walk_token.B9 : List Nat := [0, 1, 3, 7, 0, 16, 48, 112, 240, 511, 1023, 2047, 4095, 8191, 16383, 2047, 34815, 100351, 231423, 524287, 1048575, 2097151]
theorem cardexref08_walk_token.tab9 : rtab .any (opsOf Tryz.f15 9) = cardexref08_walk_token.T9 := by kernel_rfl
theorem cardexref08_walk_token.bits9 : waitsOk cardexref08_walk_token.T9.2 cardexref08_walk_token.B9 = true := by kernel_rfl
def cardexref08_walk_token.T11 : Bool × List (List Nat × List Nat) := (true, [([], []), ([0], [0]), ([1], [1]), ([2], [2]), ([], []), ([], []), ([5], [5]), ([6], [6]), ([7], [7]), ([3, 4, 8], [3, 4, 8]), ([9], [9]), ([10], [10]), ([11], [11]), ([11], [11]), ([12, 10, 0, 1, 2, 3, 4, 5, 6, 7, 8, 9, 10, 11, 12], [12]), ([13, 14, 0, 1, 2, 3, 4, 5, 6, 7, 8, 9, 10, 11, 12, 13, 14], [13])])
def cardexref08_walk_token.B11 : List Nat := [0, 1, 3, 7, 0, 0, 32, 96, 224, 511, 1023, 2047, 4095, 4095, 8191, 32767]
theorem cardexref08_walk_token.tab11 : rtab .any (opsOf Tryz.f15 11) = cardexref08_walk_token.T11 := by kernel_rfl
theorem cardexref08_walk_token.bits11 : waitsOk cardexref08_walk_token.T11.2 cardexref08_walk_token.B11 = true := by kernel_rfl
set_option maxHeartbeats 8000000 in
set_option maxRecDepth 100000 in
theorem cardexref08_walk_token.calls (k : Nat) (g : Nat) (s0_0 : ByteArray) (s0_1 : Int) (r1 : Int) (r2 : Int) (r3 : ByteArray) (r4 : ByteArray) (r5 : List (S45)) (r6 : Bool) (r7 : Bool) (r8 : ByteArray) (r9 : Int) (w0 w : World) (hI : IsS41 w0 w g s0_0 s0_1) (hB : Below w0.heap.size w0 w) (h : cardexref08_walk_token.f k s0_0 s0_1 = some (r1, r2, r3, r4, r5, r6, r7, r8, r9)) :
    Calls Tryz.prog 15 #[.pointer (some ⟨g, 0, none⟩)] w fun e w' => ∃ v4_ : Value, e = .returned (.tuple #[.agg #[.int .i64 r1, .int .i64 r2, .string r3, .string r4, v4_, .bool r6], .bool r7]) ∧ Kd.R k45 45 w' w.heap.size (fun _ => True) v4_ r5 ∧ IsS41 w0 w' g r8 r9 ∧ Below w0.heap.size w0 w' ∧ KeepBut w w' g none := by
  have hu30 := Tryz.underlying30
  have HI0 := Aside0.mk hI
  have HK := Aside0.mk (KeepBut.refl w g none)
  have HL := Aside0.mk hB.size
  clear hI
  have HW0 := Aside0.mk hB.size
  have HB := Aside0.mk hB
  clear hB
  have H : ((cardexref08_walk_is.f s0_0 s0_1 (⟨#[60, 47]⟩ : ByteArray)).bind fun bt382 => (if bt382.1 = true then ((cardexref08_walk_name.f k bt382.2.1 bt382.2.2).bind fun bt385 => ((cardexref08_walk_blanks.f k bt385.2.1 bt385.2.2).bind fun bt388 => (if bt385.1.toList = ([] : List UInt8) then (some (2, s0_1, bt385.1, (⟨#[]⟩ : ByteArray), ([] : List (S45)), false, false, bt388.2.1, bt388.2.2)) else ((cardexref08_walk_is.f bt388.2.1 bt388.2.2 (⟨#[62]⟩ : ByteArray)).bind fun bt391 => (some (2, s0_1, bt385.1, (⟨#[]⟩ : ByteArray), ([] : List (S45)), false, bt391.1, bt391.2.1, bt391.2.2)))))) else ((cardexref08_walk_is.f bt382.2.1 bt382.2.2 (⟨#[60]⟩ : ByteArray)).bind fun bt394 => (if bt394.1 = true then ((cardexref08_walk_open.f k bt394.2.1 bt394.2.2 0 s0_1 (⟨#[]⟩ : ByteArray) (⟨#[]⟩ : ByteArray) ([] : List (S45)) false).bind fun bt397 => (some (bt397.1, bt397.2.1, bt397.2.2.1, bt397.2.2.2.1, bt397.2.2.2.2.1, bt397.2.2.2.2.2.1, bt397.2.2.2.2.2.2.1, bt397.2.2.2.2.2.2.2.1, bt397.2.2.2.2.2.2.2.2))) else (cardexref08_walk_token.l0 k bt394.2.2 bt394.2.1 bt394.2.2 0 s0_1 (⟨#[]⟩ : ByteArray) (⟨#[]⟩ : ByteArray) false))))) = some (r1, r2, r3, r4, r5, r6, r7, r8, r9) := h
  clear h
  replace H := Option.bind_eq_some_iff.mp H
  obtain ⟨⟨t382, t383, t384⟩, A20, H⟩ := H
  replace H : (if t382 = true then ((cardexref08_walk_name.f k t383 t384).bind fun bt385 => ((cardexref08_walk_blanks.f k bt385.2.1 bt385.2.2).bind fun bt388 => (if bt385.1.toList = ([] : List UInt8) then (some (2, s0_1, bt385.1, (⟨#[]⟩ : ByteArray), ([] : List (S45)), false, false, bt388.2.1, bt388.2.2)) else ((cardexref08_walk_is.f bt388.2.1 bt388.2.2 (⟨#[62]⟩ : ByteArray)).bind fun bt391 => (some (2, s0_1, bt385.1, (⟨#[]⟩ : ByteArray), ([] : List (S45)), false, bt391.1, bt391.2.1, bt391.2.2)))))) else ((cardexref08_walk_is.f t383 t384 (⟨#[60]⟩ : ByteArray)).bind fun bt394 => (if bt394.1 = true then ((cardexref08_walk_open.f k bt394.2.1 bt394.2.2 0 s0_1 (⟨#[]⟩ : ByteArray) (⟨#[]⟩ : ByteArray) ([] : List (S45)) false).bind fun bt397 => (some (bt397.1, bt397.2.1, bt397.2.2.1, bt397.2.2.2.1, bt397.2.2.2.2.1, bt397.2.2.2.2.2.1, bt397.2.2.2.2.2.2.1, bt397.2.2.2.2.2.2.2.1, bt397.2.2.2.2.2.2.2.2))) else (cardexref08_walk_token.l0 k bt394.2.2 bt394.2.1 bt394.2.2 0 s0_1 (⟨#[]⟩ : ByteArray) (⟨#[]⟩ : ByteArray) false)))) = some (r1, r2, r3, r4, r5, r6, r7, r8, r9) := H
  have A2 := Aside0.mk A20
  clear A20
  by_cases c3 : t382 = true
  · subst c3
    have H1 : ((cardexref08_walk_name.f k t383 t384).bind fun bt385 => ((cardexref08_walk_blanks.f k bt385.2.1 bt385.2.2).bind fun bt388 => (if bt385.1.toList = ([] : List UInt8) then (some (2, s0_1, bt385.1, (⟨#[]⟩ : ByteArray), ([] : List (S45)), false, false, bt388.2.1, bt388.2.2)) else ((cardexref08_walk_is.f bt388.2.1 bt388.2.2 (⟨#[62]⟩ : ByteArray)).bind fun bt391 => (some (2, s0_1, bt385.1, (⟨#[]⟩ : ByteArray), ([] : List (S45)), false, bt391.1, bt391.2.1, bt391.2.2)))))) = some (r1, r2, r3, r4, r5, r6, r7, r8, r9) := by rw [if_pos rfl] at H; exact H
    clear H
    have H := H1
    clear H1
    replace H := Option.bind_eq_some_iff.mp H
    obtain ⟨⟨t385, t386, t387⟩, A40, H⟩ := H
    replace H : ((cardexref08_walk_blanks.f k t386 t387).bind fun bt388 => (if t385.toList = ([] : List UInt8) then (some (2, s0_1, t385, (⟨#[]⟩ : ByteArray), ([] : List (S45)), false, false, bt388.2.1, bt388.2.2)) else ((cardexref08_walk_is.f bt388.2.1 bt388.2.2 (⟨#[62]⟩ : ByteArray)).bind fun bt391 => (some (2, s0_1, t385, (⟨#[]⟩ : ByteArray), ([] : List (S45)), false, bt391.1, bt391.2.1, bt391.2.2))))) = some (r1, r2, r3, r4, r5, r6, r7, r8, r9) := H
    have A4 := Aside0.mk A40
    clear A40
    replace H := Option.bind_eq_some_iff.mp H
    obtain ⟨⟨t388, t389, t390⟩, A50, H⟩ := H
    replace H : (if t385.toList = ([] : List UInt8) then (some (2, s0_1, t385, (⟨#[]⟩ : ByteArray), ([] : List (S45)), false, false, t389, t390)) else ((cardexref08_walk_is.f t389 t390 (⟨#[62]⟩ : ByteArray)).bind fun bt391 => (some (2, s0_1, t385, (⟨#[]⟩ : ByteArray), ([] : List (S45)), false, bt391.1, bt391.2.1, bt391.2.2)))) = some (r1, r2, r3, r4, r5, r6, r7, r8, r9) := H
    have A5 := Aside0.mk A50
    clear A50
    by_cases c6 : t385.toList = ([] : List UInt8)
    · rw [if_pos c6] at H
      have c6b0 : (t385.toList == ([] : List UInt8)) = true := beq_iff_eq.mpr c6
      have c6b1 : (t385.toList != ([] : List UInt8)) = false := bne_eq_false_iff_eq.mpr c6
      clear c6
      simp only [Option.some.injEq, Prod.mk.injEq] at H
      obtain ⟨rfl, rfl, rfl, rfl, rfl, rfl, rfl, rfl, rfl⟩ := H
      go_enter Tryz.func15, Tryz.ntmps15
      try go_wp2_with (first | ((with_reducible refine gate_dst (N := 2) rfl ?_); refine box_event ?hg (N := 2) ?hd (cs := #[.int .i64 0, .int .i64 0, .string (⟨#[]⟩ : ByteArray), .string (⟨#[]⟩ : ByteArray), .slice none 0 0, .bool false]) (t := 30) ?hr ?_; (case hd => rfl); (case hg => rfl); (case hr => exact zz28); intro gb380 hg w7 hbox hb; have n0_ := Aside0.mk (IsS41.below zz8 hb); have n1_ := Aside0.mk (KeepBut.trans zz3 (KeepBut.of_below hb g none) (.inl rfl)); have n2_ := Aside0.mk (below_step zz7 hb); have n3_ := Aside0.mk (hbox); have n4_ := Aside0.mk ((by rw [hg]; exact (keep_size (w := w) (g := g) (row := none) zz3) : w.heap.size ≤ gb380)); have n5_ := Aside0.mk ((Nat.le_trans HW0.out (by rw [hg]; exact (keep_size (w := w) (g := g) (row := none) zz3) : w.heap.size ≤ gb380) : w0.heap.size ≤ gb380)); have n6_ := Aside0.mk ((by rw [hg]; exact Nat.ne_of_lt (IsS41.lt (show IsS41 w0 _ g s0_0 s0_1 from by repeat (first | (with_reducible first | exact HI0.out | apply IsS41.alloc | apply IsS41.drewN | apply IsS41.drew | apply IsS41.set_0 | apply IsS41.set_1) | exact HI0.out))) : g ≠ gb380)); have n7_ := Aside0.mk ((by rw [hg]; exact Nat.ne_of_gt (IsS41.lt (show IsS41 w0 _ g s0_0 s0_1 from by repeat (first | (with_reducible first | exact HI0.out | apply IsS41.alloc | apply IsS41.drewN | apply IsS41.drew | apply IsS41.set_0 | apply IsS41.set_1) | exact HI0.out))) : gb380 ≠ g)); clear HI0; clear HK; clear HB; have HI0 := n0_; have HK := n1_; have HB := n2_; have BK380 := n3_; have GW380 := n4_; have GE380 := n5_; have NB0_380 := n6_; have NB380_0 := n7_; clear n0_ n1_ n2_ n3_ n4_ n5_ n6_ n7_; clear hb hbox hg; obtain ⟨HGz8, hgz8⟩ := HI0.out; have hcz8_0 := cellS41_0 HGz8; have hcz8_1 := cellS41_1 HGz8; have hfz8_0 := blk_frozen HGz8 0; have hfz8_1 := blk_frozen HGz8 1; clear HGz8 hgz8) | ((with_reducible refine gate_dst (N := 4) rfl ?_); refine box_event ?hg (N := 4) ?hd (cs := #[.int .i64 0, .int .i64 0, .string (⟨#[]⟩ : ByteArray), .string (⟨#[]⟩ : ByteArray), .slice none 0 0, .bool false]) (t := 30) ?hr ?_; (case hd => rfl); (case hg => rfl); (case hr => exact zz28); intro gb381 hg w9 hbox hb; have n0_ := Aside0.mk (IsS41.below zz68 hb); have n1_ := Aside0.mk (blk_below (g := gb380) (o := .cells #[.int .i64 0, .int .i64 0, .string (⟨#[]⟩ : ByteArray), .string (⟨#[]⟩ : ByteArray), .slice none 0 0, .bool false] 30 (0, 0)) zz30 hb); have n2_ := Aside0.mk (KeepBut.trans zz35 (KeepBut.of_below hb g none) (.inl rfl)); have n3_ := Aside0.mk (below_step zz70 hb); have n4_ := Aside0.mk (hbox); have n5_ := Aside0.mk ((by rw [hg]; exact (keep_size (w := w) (g := g) (row := none) zz35) : w.heap.size ≤ gb381)); have n6_ := Aside0.mk ((Nat.le_trans HW0.out (by rw [hg]; exact (keep_size (w := w) (g := g) (row := none) zz35) : w.heap.size ≤ gb381) : w0.heap.size ≤ gb381)); have n7_ := Aside0.mk ((by rw [hg]; exact Nat.ne_of_lt (blk_lt (g := gb380) (o := .cells #[.int .i64 0, .int .i64 0, .string (⟨#[]⟩ : ByteArray), .string (⟨#[]⟩ : ByteArray), .slice none 0 0, .bool false] 30 (0, 0)) zz30) : gb380 ≠ gb381)); have n8_ := Aside0.mk ((by rw [hg]; exact Nat.ne_of_gt (blk_lt (g := gb380) (o := .cells #[.int .i64 0, .int .i64 0, .string (⟨#[]⟩ : ByteArray), .string (⟨#[]⟩ : ByteArray), .slice none 0 0, .bool false] 30 (0, 0)) zz30) : gb381 ≠ gb380)); have n9_ := Aside0.mk ((by rw [hg]; exact Nat.ne_of_lt (IsS41.lt (show IsS41 w0 _ g s0_0 s0_1 from by repeat (first | (with_reducible first | exact HI0.out | apply IsS41.alloc | apply IsS41.drewN | apply IsS41.drew | apply IsS41.set_0 | apply IsS41.set_1 | refine IsS41.far ?_ NB0_380.out _) | exact HI0.out))) : g ≠ gb381)); have n10_ := Aside0.mk ((by rw [hg]; exact Nat.ne_of_gt (IsS41.lt (show IsS41 w0 _ g s0_0 s0_1 from by repeat (first | (with_reducible first | exact HI0.out | apply IsS41.alloc | apply IsS41.drewN | apply IsS41.drew | apply IsS41.set_0 | apply IsS41.set_1 | refine IsS41.far ?_ NB0_380.out _) | exact HI0.out))) : gb381 ≠ g)); clear HI0; clear BK380; clear HK; clear HB; have HI0 := n0_; have BK380 := n1_; have HK := n2_; have HB := n3_; have BK381 := n4_; have GW381 := n5_; have GE381 := n6_; have NB380_381 := n7_; have NB381_380 := n8_; have NB0_381 := n9_; have NB381_0 := n10_; clear n0_ n1_ n2_ n3_ n4_ n5_ n6_ n7_ n8_ n9_ n10_; clear hb hbox hg; have hnb10 := NB381_380.out; have hnc10 := NB380_381.out; have hnb11 := NB381_0.out; have hnc11 := NB0_381.out; have hcz12_0 : w9.cell? ⟨gb381, 0, none⟩ = some (.int .i64 0) := (blk_cell BK381.out 0).trans rfl; have hcz12_1 : w9.cell? ⟨gb381, 1, none⟩ = some (.int .i64 0) := (blk_cell BK381.out 1).trans rfl; have hcz12_2 : w9.cell? ⟨gb381, 2, none⟩ = some (.string (⟨#[]⟩ : ByteArray)) := (blk_cell BK381.out 2).trans rfl; have hcz12_3 : w9.cell? ⟨gb381, 3, none⟩ = some (.string (⟨#[]⟩ : ByteArray)) := (blk_cell BK381.out 3).trans rfl; have hcz12_4 : w9.cell? ⟨gb381, 4, none⟩ = some (.slice none 0 0) := (blk_cell BK381.out 4).trans rfl; have hcz12_5 : w9.cell? ⟨gb381, 5, none⟩ = some (.bool false) := (blk_cell BK381.out 5).trans rfl; have hfz12_0 := blk_frozen BK381.out 0; have hfz12_1 := blk_frozen BK381.out 1; have hfz12_2 := blk_frozen BK381.out 2; have hfz12_3 := blk_frozen BK381.out 3; have hfz12_4 := blk_frozen BK381.out 4; have hfz12_5 := blk_frozen BK381.out 5) | ((with_reducible refine gate_callee (f := 14) rfl ?_); refine goesL_ (some 14) rfl rfl Tryz.func14 zz29 rfl #[.pointer (some ⟨g, 0, none⟩), .string (⟨#[60, 47]⟩ : ByteArray)] rfl zz1 ?_; (with_reducible refine (cardexref08_walk_is.calls g s0_0 s0_1 (⟨#[60, 47]⟩ : ByteArray) true t383 t384 w0 _ ?side1 ?side2 A2.out).mono ?_); (case side1 => exact zz13); (case side2 => exact zz14); rintro e w13 ⟨rfl, hi, hb, hk⟩; refine ⟨_, rfl, ?_⟩; have n0_ := Aside0.mk (KeepBut.blk hk (g' := gb380) (o := .cells #[.int .i64 0, .int .i64 0, .string (⟨#[]⟩ : ByteArray), .string (⟨#[]⟩ : ByteArray), .slice none 0 0, .bool false] 30 (0, 0)) zz24 NB380_0.out (by simp)); have n1_ := Aside0.mk (KeepBut.blk hk (g' := gb381) (o := .cells #[.int .i64 0, .int .i64 s0_1, .string (⟨#[]⟩ : ByteArray), .string (⟨#[]⟩ : ByteArray), .slice none 0 0, .bool false] 30 (0, 0)) zz11 NB381_0.out (by simp)); have n2_ := Aside0.mk (KeepBut.trans zz16 hk (.inl rfl)); have n3_ := Aside0.mk (hb); have n4_ := Aside0.mk (hi); clear BK380; clear BK381; clear HK; clear HB; clear HI0; have BK380 := n0_; have BK381 := n1_; have HK := n2_; have HB := n3_; have HI0 := n4_; clear n0_ n1_ n2_ n3_ n4_; (try clear hb); (try clear hb2); (try clear hk); (try clear hi)) | ((with_reducible refine gate_callee (f := 25) rfl ?_); refine goesL_ (some 16) rfl rfl Tryz.func25 zz29 rfl #[.pointer (some ⟨g, 0, none⟩)] rfl zz1 ?_; (with_reducible refine (cardexref08_walk_name.calls k g t383 t384 t385 t386 t387 w0 _ ?side1 ?side2 A4.out).mono ?_); (case side1 => exact zz13); (case side2 => exact zz14); rintro e w14 ⟨rfl, hi, hb, hk⟩; refine ⟨_, rfl, ?_⟩; have n0_ := Aside0.mk (KeepBut.blk hk (g' := gb380) (o := .cells #[.int .i64 0, .int .i64 0, .string (⟨#[]⟩ : ByteArray), .string (⟨#[]⟩ : ByteArray), .slice none 0 0, .bool false] 30 (0, 0)) zz30 NB380_0.out (by simp)); have n1_ := Aside0.mk (KeepBut.blk hk (g' := gb381) (o := .cells #[.int .i64 0, .int .i64 s0_1, .string (⟨#[]⟩ : ByteArray), .string (⟨#[]⟩ : ByteArray), .slice none 0 0, .bool false] 30 (0, 0)) zz60 NB381_0.out (by simp)); have n2_ := Aside0.mk (KeepBut.trans zz16 hk (.inl rfl)); have n3_ := Aside0.mk (hb); have n4_ := Aside0.mk (hi); clear BK380; clear BK381; clear HK; clear HB; clear HI0; have BK380 := n0_; have BK381 := n1_; have HK := n2_; have HB := n3_; have HI0 := n4_; clear n0_ n1_ n2_ n3_ n4_; (try clear hb); (try clear hb2); (try clear hk); (try clear hi); have hcz15_0 : w14.cell? ⟨gb381, 0, none⟩ = some (.int .i64 0) := (blk_cell BK381.out 0).trans rfl; have hcz15_1 : w14.cell? ⟨gb381, 1, none⟩ = some (.int .i64 s0_1) := (blk_cell BK381.out 1).trans rfl; have hcz15_2 : w14.cell? ⟨gb381, 2, none⟩ = some (.string (⟨#[]⟩ : ByteArray)) := (blk_cell BK381.out 2).trans rfl; have hcz15_3 : w14.cell? ⟨gb381, 3, none⟩ = some (.string (⟨#[]⟩ : ByteArray)) := (blk_cell BK381.out 3).trans rfl; have hcz15_4 : w14.cell? ⟨gb381, 4, none⟩ = some (.slice none 0 0) := (blk_cell BK381.out 4).trans rfl; have hcz15_5 : w14.cell? ⟨gb381, 5, none⟩ = some (.bool false) := (blk_cell BK381.out 5).trans rfl; have hfz15_0 := blk_frozen BK381.out 0; have hfz15_1 := blk_frozen BK381.out 1; have hfz15_2 := blk_frozen BK381.out 2; have hfz15_3 := blk_frozen BK381.out 3; have hfz15_4 := blk_frozen BK381.out 4; have hfz15_5 := blk_frozen BK381.out 5) | ((with_reducible refine gate_callee (f := 26) rfl ?_); refine goesL_ (some 20) rfl rfl Tryz.func26 zz29 rfl #[.pointer (some ⟨g, 0, none⟩)] rfl zz1 ?_; (with_reducible refine (cardexref08_walk_blanks.calls k g t386 t387 t388 t389 t390 w0 _ ?side1 ?side2 A5.out).mono ?_); (case side1 => exact zz13); (case side2 => exact zz14); rintro e w16 ⟨rfl, hi, hb, hk⟩; refine ⟨_, rfl, ?_⟩; have n0_ := Aside0.mk (KeepBut.blk hk (g' := gb380) (o := .cells #[.int .i64 0, .int .i64 0, .string (⟨#[]⟩ : ByteArray), .string (⟨#[]⟩ : ByteArray), .slice none 0 0, .bool false] 30 (0, 0)) (by (with_reducible repeat (first | refine blk_drewN ?_ _ | refine blk_drew ?_ | refine blk_alloc ?_ _)); refine blk_far ?_ NB380_381.out _; (with_reducible repeat (first | refine blk_drewN ?_ _ | refine blk_drew ?_ | refine blk_alloc ?_ _)); refine blk_far ?_ NB380_381.out _; (with_reducible repeat (first | refine blk_drewN ?_ _ | refine blk_drew ?_ | refine blk_alloc ?_ _)); exact BK380.out) NB380_0.out (by simp)); have n1_ := Aside0.mk (KeepBut.blk hk (g' := gb381) (o := .cells #[.int .i64 2, .int .i64 s0_1, .string t385, .string (⟨#[]⟩ : ByteArray), .slice none 0 0, .bool false] 30 (0, 0)) (by (with_reducible repeat (first | refine blk_drewN ?_ _ | refine blk_drew ?_ | refine blk_alloc ?_ _)); refine blk_put (cs := #[.int .i64 2, .int .i64 s0_1, .string (⟨#[]⟩ : ByteArray), .string (⟨#[]⟩ : ByteArray), .slice none 0 0, .bool false]) ?_ 2 _ rfl; (with_reducible repeat (first | refine blk_drewN ?_ _ | refine blk_drew ?_ | refine blk_alloc ?_ _)); refine blk_put (cs := #[.int .i64 0, .int .i64 s0_1, .string (⟨#[]⟩ : ByteArray), .string (⟨#[]⟩ : ByteArray), .slice none 0 0, .bool false]) ?_ 0 _ rfl; (with_reducible repeat (first | refine blk_drewN ?_ _ | refine blk_drew ?_ | refine blk_alloc ?_ _)); exact BK381.out) NB381_0.out (by simp)); have n2_ := Aside0.mk (KeepBut.trans zz16 hk (.inl rfl)); have n3_ := Aside0.mk (hb); have n4_ := Aside0.mk (hi); clear BK380; clear BK381; clear HK; clear HB; clear HI0; have BK380 := n0_; have BK381 := n1_; have HK := n2_; have HB := n3_; have HI0 := n4_; clear n0_ n1_ n2_ n3_ n4_; (try clear hb); (try clear hb2); (try clear hk); (try clear hi)))
      have n0_ := Aside0.mk (blk_drew BK380.out)
      have n1_ := Aside0.mk (blk_drew BK381.out)
      have n2_ := Aside0.mk (IsS41.drew HI0.out)
      have n3_ := Aside0.mk (keep_drew HK.out)
      have n4_ := Aside0.mk (below_drew1 HB.out)
      clear BK380
      clear BK381
      clear HI0
      clear HK
      clear HB
      have BK380 := n0_
      have BK381 := n1_
      have HI0 := n2_
      have HK := n3_
      have HB := n4_
      clear n0_ n1_ n2_ n3_ n4_
      refine start_ (n := 10) (S := fun w' => w'.cell? ⟨gb381, 0, none⟩ = some (.int .i64 2) ∧ w'.cell? ⟨gb381, 1, none⟩ = some (.int .i64 s0_1) ∧ w'.cell? ⟨gb381, 2, none⟩ = some (.string t385) ∧ w'.cell? ⟨gb381, 3, none⟩ = some (.string (⟨#[]⟩ : ByteArray)) ∧ w'.cell? ⟨gb381, 4, none⟩ = some (.slice none 0 0) ∧ w'.cell? ⟨gb381, 5, none⟩ = some (.bool false)) (ds := []) #[false, false, false, false, false, false, false, false, false, false] zz29 rfl rfl ⟨(blk_cell BK381.out 0).trans rfl, (blk_cell BK381.out 1).trans rfl, (blk_cell BK381.out 2).trans rfl, (blk_cell BK381.out 3).trans rfl, (blk_cell BK381.out 4).trans rfl, (blk_cell BK381.out 5).trans rfl⟩ (fun hHeld => ?_); refine with_tabW cardexref08_walk_token.tab5 cardexref08_walk_token.bits5 (fun HT_ HW_ => ?_)
      generalize w16.drew = w17 at BK380 BK381 HI0 HK HB hHeld ⊢
      refine pz 1 (some 22) ?_; refine t6 0 (some 21) ?_; refine t6 2 (some 23) ?_; refine pz 3 (some 24) ?_; refine pz 4 (some 25) ?_; refine pu 5 (some 26) ?_; refine pu 6 (some 27) ?_; refine pz 7 (some 28) ?_
      refine one_ (i := 8) (N := none) #[true, true, true, true, true, true, true, true, true, false] rfl rfl (one_of HT_.out zz29) (by decide) (fun K hK => ?_)
      have hs18 : w17.cell? ⟨gb380, 0, none⟩ = some (.int .i64 0) := (blk_cell BK380.out 0).trans rfl
      have hfs18 := blk_frozen BK380.out 0
      have hns18_1 := NB381_380.out
      have hms18_1 := NB380_381.out
      have hs19 : w17.cell? ⟨gb380, 1, none⟩ = some (.int .i64 0) := (blk_cell BK380.out 1).trans rfl
      have hfs19 := blk_frozen BK380.out 1
      have hns19_1 := NB381_380.out
      have hms19_1 := NB380_381.out
      have hs20 : w17.cell? ⟨gb380, 2, none⟩ = some (.string (⟨#[]⟩ : ByteArray)) := (blk_cell BK380.out 2).trans rfl
      have hfs20 := blk_frozen BK380.out 2
      have hns20_1 := NB381_380.out
      have hms20_1 := NB380_381.out
      have hs21 : w17.cell? ⟨gb380, 3, none⟩ = some (.string (⟨#[]⟩ : ByteArray)) := (blk_cell BK380.out 3).trans rfl
      have hfs21 := blk_frozen BK380.out 3
      have hns21_1 := NB381_380.out
      have hms21_1 := NB380_381.out
      have hs22 : w17.cell? ⟨gb380, 4, none⟩ = some (.slice none 0 0) := (blk_cell BK380.out 4).trans rfl
      have hfs22 := blk_frozen BK380.out 4
      have hns22_1 := NB381_380.out
      have hms22_1 := NB380_381.out
      have hs23 : w17.cell? ⟨gb380, 5, none⟩ = some (.bool false) := (blk_cell BK380.out 5).trans rfl
      have hfs23 := blk_frozen BK380.out 5
      have hns23_1 := NB381_380.out
      have hms23_1 := NB380_381.out
      refine skip_ (w1 := ?_) (by rfl) rfl ?_ ?_
      rotate_left
      · go_simp
        rfl
      refine hK.out _ _ ⟨((cell_far (p := ⟨gb380, _, none⟩) NB381_380.out _).trans (((cell_far (p := ⟨gb380, _, none⟩) NB381_380.out _).trans (((cell_far (p := ⟨gb380, _, none⟩) NB381_380.out _).trans (((cell_far (p := ⟨gb380, _, none⟩) NB381_380.out _).trans (((cell_far (p := ⟨gb380, _, none⟩) NB381_380.out _).trans (((cell_far (p := ⟨gb380, _, none⟩) NB381_380.out _).trans (hHeld.1)))))))))))), ((cell_far (p := ⟨gb380, _, none⟩) NB381_380.out _).trans (((cell_far (p := ⟨gb380, _, none⟩) NB381_380.out _).trans (((cell_far (p := ⟨gb380, _, none⟩) NB381_380.out _).trans (((cell_far (p := ⟨gb380, _, none⟩) NB381_380.out _).trans (((cell_far (p := ⟨gb380, _, none⟩) NB381_380.out _).trans (((cell_far (p := ⟨gb380, _, none⟩) NB381_380.out _).trans (hHeld.2.1)))))))))))), ((cell_far (p := ⟨gb380, _, none⟩) NB381_380.out _).trans (((cell_far (p := ⟨gb380, _, none⟩) NB381_380.out _).trans (((cell_far (p := ⟨gb380, _, none⟩) NB381_380.out _).trans (((cell_far (p := ⟨gb380, _, none⟩) NB381_380.out _).trans (((cell_far (p := ⟨gb380, _, none⟩) NB381_380.out _).trans (((cell_far (p := ⟨gb380, _, none⟩) NB381_380.out _).trans (hHeld.2.2.1)))))))))))), ((cell_far (p := ⟨gb380, _, none⟩) NB381_380.out _).trans (((cell_far (p := ⟨gb380, _, none⟩) NB381_380.out _).trans (((cell_far (p := ⟨gb380, _, none⟩) NB381_380.out _).trans (((cell_far (p := ⟨gb380, _, none⟩) NB381_380.out _).trans (((cell_far (p := ⟨gb380, _, none⟩) NB381_380.out _).trans (((cell_far (p := ⟨gb380, _, none⟩) NB381_380.out _).trans (hHeld.2.2.2.1)))))))))))), ((cell_far (p := ⟨gb380, _, none⟩) NB381_380.out _).trans (((cell_far (p := ⟨gb380, _, none⟩) NB381_380.out _).trans (((cell_far (p := ⟨gb380, _, none⟩) NB381_380.out _).trans (((cell_far (p := ⟨gb380, _, none⟩) NB381_380.out _).trans (((cell_far (p := ⟨gb380, _, none⟩) NB381_380.out _).trans (((cell_far (p := ⟨gb380, _, none⟩) NB381_380.out _).trans (hHeld.2.2.2.2.1)))))))))))), ((cell_far (p := ⟨gb380, _, none⟩) NB381_380.out _).trans (((cell_far (p := ⟨gb380, _, none⟩) NB381_380.out _).trans (((cell_far (p := ⟨gb380, _, none⟩) NB381_380.out _).trans (((cell_far (p := ⟨gb380, _, none⟩) NB381_380.out _).trans (((cell_far (p := ⟨gb380, _, none⟩) NB381_380.out _).trans (((cell_far (p := ⟨gb380, _, none⟩) NB381_380.out _).trans (hHeld.2.2.2.2.2))))))))))))⟩ (fun hHeld => ?_)
      clear hK K
      refine pz 9 (some 3) ?_
      refine done_ (done_of HT_.out zz29) ?_
      try go_wp2
      refine bodyPost_ret (results_ct rfl _ _ gb380 30 #[.int .i64 2, .int .i64 s0_1, .string t385, .string (⟨#[]⟩ : ByteArray), .slice none 0 0, .bool false] (0, 0) _ rfl (by (with_reducible repeat (first | refine blk_drewN ?_ _ | refine blk_drew ?_ | refine blk_alloc ?_ _)); refine blk_put (cs := #[.int .i64 2, .int .i64 s0_1, .string t385, .string (⟨#[]⟩ : ByteArray), .slice none 0 0, .bool false]) ?_ 5 _ rfl; (with_reducible repeat (first | refine blk_drewN ?_ _ | refine blk_drew ?_ | refine blk_alloc ?_ _)); refine blk_put (cs := #[.int .i64 2, .int .i64 s0_1, .string t385, .string (⟨#[]⟩ : ByteArray), .slice none 0 0, .bool false]) ?_ 4 _ rfl; (with_reducible repeat (first | refine blk_drewN ?_ _ | refine blk_drew ?_ | refine blk_alloc ?_ _)); refine blk_put (cs := #[.int .i64 2, .int .i64 s0_1, .string t385, .string (⟨#[]⟩ : ByteArray), .slice none 0 0, .bool false]) ?_ 3 _ rfl; (with_reducible repeat (first | refine blk_drewN ?_ _ | refine blk_drew ?_ | refine blk_alloc ?_ _)); refine blk_put (cs := #[.int .i64 2, .int .i64 s0_1, .string (⟨#[]⟩ : ByteArray), .string (⟨#[]⟩ : ByteArray), .slice none 0 0, .bool false]) ?_ 2 _ rfl; (with_reducible repeat (first | refine blk_drewN ?_ _ | refine blk_drew ?_ | refine blk_alloc ?_ _)); refine blk_put (cs := #[.int .i64 2, .int .i64 0, .string (⟨#[]⟩ : ByteArray), .string (⟨#[]⟩ : ByteArray), .slice none 0 0, .bool false]) ?_ 1 _ rfl; (with_reducible repeat (first | refine blk_drewN ?_ _ | refine blk_drew ?_ | refine blk_alloc ?_ _)); refine blk_put (cs := #[.int .i64 0, .int .i64 0, .string (⟨#[]⟩ : ByteArray), .string (⟨#[]⟩ : ByteArray), .slice none 0 0, .bool false]) ?_ 0 _ rfl; (with_reducible repeat (first | refine blk_drewN ?_ _ | refine blk_drew ?_ | refine blk_alloc ?_ _)); exact BK380.out) Tryz.underlying30 rfl zz29) rfl ?_
      exact ⟨_, zz4, zz40, zz13, zz14, zz16⟩
    · rw [if_neg c6] at H
      have c6b0 : (t385.toList == ([] : List UInt8)) = false := beq_eq_false_iff_ne.mpr c6
      have c6b1 : (t385.toList != ([] : List UInt8)) = true := bne_iff_ne.mpr c6
      replace H := Option.bind_eq_some_iff.mp H
      obtain ⟨⟨t391, t392, t393⟩, A240, H⟩ := H
      replace H : (some (2, s0_1, t385, (⟨#[]⟩ : ByteArray), ([] : List (S45)), false, t391, t392, t393)) = some (r1, r2, r3, r4, r5, r6, r7, r8, r9) := H
      have A24 := Aside0.mk A240
      clear A240
      simp only [Option.some.injEq, Prod.mk.injEq] at H
      obtain ⟨rfl, rfl, rfl, rfl, rfl, rfl, rfl, rfl, rfl⟩ := H
      go_enter Tryz.func15, Tryz.ntmps15
      try go_wp2_with (first | ((with_reducible refine gate_dst (N := 2) rfl ?_); refine box_event ?hg (N := 2) ?hd (cs := #[.int .i64 0, .int .i64 0, .string (⟨#[]⟩ : ByteArray), .string (⟨#[]⟩ : ByteArray), .slice none 0 0, .bool false]) (t := 30) ?hr ?_; (case hd => rfl); (case hg => rfl); (case hr => exact zz28); intro gb380 hg w25 hbox hb; have n0_ := Aside0.mk (IsS41.below zz8 hb); have n1_ := Aside0.mk (KeepBut.trans zz3 (KeepBut.of_below hb g none) (.inl rfl)); have n2_ := Aside0.mk (below_step zz7 hb); have n3_ := Aside0.mk (hbox); have n4_ := Aside0.mk ((by rw [hg]; exact (keep_size (w := w) (g := g) (row := none) zz3) : w.heap.size ≤ gb380)); have n5_ := Aside0.mk ((Nat.le_trans HW0.out (by rw [hg]; exact (keep_size (w := w) (g := g) (row := none) zz3) : w.heap.size ≤ gb380) : w0.heap.size ≤ gb380)); have n6_ := Aside0.mk ((by rw [hg]; exact Nat.ne_of_lt (IsS41.lt (show IsS41 w0 _ g s0_0 s0_1 from by repeat (first | (with_reducible first | exact HI0.out | apply IsS41.alloc | apply IsS41.drewN | apply IsS41.drew | apply IsS41.set_0 | apply IsS41.set_1) | exact HI0.out))) : g ≠ gb380)); have n7_ := Aside0.mk ((by rw [hg]; exact Nat.ne_of_gt (IsS41.lt (show IsS41 w0 _ g s0_0 s0_1 from by repeat (first | (with_reducible first | exact HI0.out | apply IsS41.alloc | apply IsS41.drewN | apply IsS41.drew | apply IsS41.set_0 | apply IsS41.set_1) | exact HI0.out))) : gb380 ≠ g)); clear HI0; clear HK; clear HB; have HI0 := n0_; have HK := n1_; have HB := n2_; have BK380 := n3_; have GW380 := n4_; have GE380 := n5_; have NB0_380 := n6_; have NB380_0 := n7_; clear n0_ n1_ n2_ n3_ n4_ n5_ n6_ n7_; clear hb hbox hg; obtain ⟨HGz26, hgz26⟩ := HI0.out; have hcz26_0 := cellS41_0 HGz26; have hcz26_1 := cellS41_1 HGz26; have hfz26_0 := blk_frozen HGz26 0; have hfz26_1 := blk_frozen HGz26 1; clear HGz26 hgz26) | ((with_reducible refine gate_dst (N := 4) rfl ?_); refine box_event ?hg (N := 4) ?hd (cs := #[.int .i64 0, .int .i64 0, .string (⟨#[]⟩ : ByteArray), .string (⟨#[]⟩ : ByteArray), .slice none 0 0, .bool false]) (t := 30) ?hr ?_; (case hd => rfl); (case hg => rfl); (case hr => exact zz28); intro gb381 hg w27 hbox hb; have n0_ := Aside0.mk (IsS41.below zz68 hb); have n1_ := Aside0.mk (blk_below (g := gb380) (o := .cells #[.int .i64 0, .int .i64 0, .string (⟨#[]⟩ : ByteArray), .string (⟨#[]⟩ : ByteArray), .slice none 0 0, .bool false] 30 (0, 0)) zz30 hb); have n2_ := Aside0.mk (KeepBut.trans zz35 (KeepBut.of_below hb g none) (.inl rfl)); have n3_ := Aside0.mk (below_step zz70 hb); have n4_ := Aside0.mk (hbox); have n5_ := Aside0.mk ((by rw [hg]; exact (keep_size (w := w) (g := g) (row := none) zz35) : w.heap.size ≤ gb381)); have n6_ := Aside0.mk ((Nat.le_trans HW0.out (by rw [hg]; exact (keep_size (w := w) (g := g) (row := none) zz35) : w.heap.size ≤ gb381) : w0.heap.size ≤ gb381)); have n7_ := Aside0.mk ((by rw [hg]; exact Nat.ne_of_lt (blk_lt (g := gb380) (o := .cells #[.int .i64 0, .int .i64 0, .string (⟨#[]⟩ : ByteArray), .string (⟨#[]⟩ : ByteArray), .slice none 0 0, .bool false] 30 (0, 0)) zz30) : gb380 ≠ gb381)); have n8_ := Aside0.mk ((by rw [hg]; exact Nat.ne_of_gt (blk_lt (g := gb380) (o := .cells #[.int .i64 0, .int .i64 0, .string (⟨#[]⟩ : ByteArray), .string (⟨#[]⟩ : ByteArray), .slice none 0 0, .bool false] 30 (0, 0)) zz30) : gb381 ≠ gb380)); have n9_ := Aside0.mk ((by rw [hg]; exact Nat.ne_of_lt (IsS41.lt (show IsS41 w0 _ g s0_0 s0_1 from by repeat (first | (with_reducible first | exact HI0.out | apply IsS41.alloc | apply IsS41.drewN | apply IsS41.drew | apply IsS41.set_0 | apply IsS41.set_1 | refine IsS41.far ?_ NB0_380.out _) | exact HI0.out))) : g ≠ gb381)); have n10_ := Aside0.mk ((by rw [hg]; exact Nat.ne_of_gt (IsS41.lt (show IsS41 w0 _ g s0_0 s0_1 from by repeat (first | (with_reducible first | exact HI0.out | apply IsS41.alloc | apply IsS41.drewN | apply IsS41.drew | apply IsS41.set_0 | apply IsS41.set_1 | refine IsS41.far ?_ NB0_380.out _) | exact HI0.out))) : gb381 ≠ g)); clear HI0; clear BK380; clear HK; clear HB; have HI0 := n0_; have BK380 := n1_; have HK := n2_; have HB := n3_; have BK381 := n4_; have GW381 := n5_; have GE381 := n6_; have NB380_381 := n7_; have NB381_380 := n8_; have NB0_381 := n9_; have NB381_0 := n10_; clear n0_ n1_ n2_ n3_ n4_ n5_ n6_ n7_ n8_ n9_ n10_; clear hb hbox hg; have hnb28 := NB381_380.out; have hnc28 := NB380_381.out; have hnb29 := NB381_0.out; have hnc29 := NB0_381.out; have hcz30_0 : w27.cell? ⟨gb381, 0, none⟩ = some (.int .i64 0) := (blk_cell BK381.out 0).trans rfl; have hcz30_1 : w27.cell? ⟨gb381, 1, none⟩ = some (.int .i64 0) := (blk_cell BK381.out 1).trans rfl; have hcz30_2 : w27.cell? ⟨gb381, 2, none⟩ = some (.string (⟨#[]⟩ : ByteArray)) := (blk_cell BK381.out 2).trans rfl; have hcz30_3 : w27.cell? ⟨gb381, 3, none⟩ = some (.string (⟨#[]⟩ : ByteArray)) := (blk_cell BK381.out 3).trans rfl; have hcz30_4 : w27.cell? ⟨gb381, 4, none⟩ = some (.slice none 0 0) := (blk_cell BK381.out 4).trans rfl; have hcz30_5 : w27.cell? ⟨gb381, 5, none⟩ = some (.bool false) := (blk_cell BK381.out 5).trans rfl; have hfz30_0 := blk_frozen BK381.out 0; have hfz30_1 := blk_frozen BK381.out 1; have hfz30_2 := blk_frozen BK381.out 2; have hfz30_3 := blk_frozen BK381.out 3; have hfz30_4 := blk_frozen BK381.out 4; have hfz30_5 := blk_frozen BK381.out 5) | ((with_reducible refine gate_callee (f := 14) rfl ?_); refine goesL_ (some 14) rfl rfl Tryz.func14 zz29 rfl #[.pointer (some ⟨g, 0, none⟩), .string (⟨#[60, 47]⟩ : ByteArray)] rfl zz1 ?_; (with_reducible refine (cardexref08_walk_is.calls g s0_0 s0_1 (⟨#[60, 47]⟩ : ByteArray) true t383 t384 w0 _ ?side1 ?side2 A2.out).mono ?_); (case side1 => exact zz13); (case side2 => exact zz14); rintro e w31 ⟨rfl, hi, hb, hk⟩; refine ⟨_, rfl, ?_⟩; have n0_ := Aside0.mk (KeepBut.blk hk (g' := gb380) (o := .cells #[.int .i64 0, .int .i64 0, .string (⟨#[]⟩ : ByteArray), .string (⟨#[]⟩ : ByteArray), .slice none 0 0, .bool false] 30 (0, 0)) zz24 NB380_0.out (by simp)); have n1_ := Aside0.mk (KeepBut.blk hk (g' := gb381) (o := .cells #[.int .i64 0, .int .i64 s0_1, .string (⟨#[]⟩ : ByteArray), .string (⟨#[]⟩ : ByteArray), .slice none 0 0, .bool false] 30 (0, 0)) zz11 NB381_0.out (by simp)); have n2_ := Aside0.mk (KeepBut.trans zz16 hk (.inl rfl)); have n3_ := Aside0.mk (hb); have n4_ := Aside0.mk (hi); clear BK380; clear BK381; clear HK; clear HB; clear HI0; have BK380 := n0_; have BK381 := n1_; have HK := n2_; have HB := n3_; have HI0 := n4_; clear n0_ n1_ n2_ n3_ n4_; (try clear hb); (try clear hb2); (try clear hk); (try clear hi)) | ((with_reducible refine gate_callee (f := 25) rfl ?_); refine goesL_ (some 16) rfl rfl Tryz.func25 zz29 rfl #[.pointer (some ⟨g, 0, none⟩)] rfl zz1 ?_; (with_reducible refine (cardexref08_walk_name.calls k g t383 t384 t385 t386 t387 w0 _ ?side1 ?side2 A4.out).mono ?_); (case side1 => exact zz13); (case side2 => exact zz14); rintro e w32 ⟨rfl, hi, hb, hk⟩; refine ⟨_, rfl, ?_⟩; have n0_ := Aside0.mk (KeepBut.blk hk (g' := gb380) (o := .cells #[.int .i64 0, .int .i64 0, .string (⟨#[]⟩ : ByteArray), .string (⟨#[]⟩ : ByteArray), .slice none 0 0, .bool false] 30 (0, 0)) zz30 NB380_0.out (by simp)); have n1_ := Aside0.mk (KeepBut.blk hk (g' := gb381) (o := .cells #[.int .i64 0, .int .i64 s0_1, .string (⟨#[]⟩ : ByteArray), .string (⟨#[]⟩ : ByteArray), .slice none 0 0, .bool false] 30 (0, 0)) zz60 NB381_0.out (by simp)); have n2_ := Aside0.mk (KeepBut.trans zz16 hk (.inl rfl)); have n3_ := Aside0.mk (hb); have n4_ := Aside0.mk (hi); clear BK380; clear BK381; clear HK; clear HB; clear HI0; have BK380 := n0_; have BK381 := n1_; have HK := n2_; have HB := n3_; have HI0 := n4_; clear n0_ n1_ n2_ n3_ n4_; (try clear hb); (try clear hb2); (try clear hk); (try clear hi); have hcz33_0 : w32.cell? ⟨gb381, 0, none⟩ = some (.int .i64 0) := (blk_cell BK381.out 0).trans rfl; have hcz33_1 : w32.cell? ⟨gb381, 1, none⟩ = some (.int .i64 s0_1) := (blk_cell BK381.out 1).trans rfl; have hcz33_2 : w32.cell? ⟨gb381, 2, none⟩ = some (.string (⟨#[]⟩ : ByteArray)) := (blk_cell BK381.out 2).trans rfl; have hcz33_3 : w32.cell? ⟨gb381, 3, none⟩ = some (.string (⟨#[]⟩ : ByteArray)) := (blk_cell BK381.out 3).trans rfl; have hcz33_4 : w32.cell? ⟨gb381, 4, none⟩ = some (.slice none 0 0) := (blk_cell BK381.out 4).trans rfl; have hcz33_5 : w32.cell? ⟨gb381, 5, none⟩ = some (.bool false) := (blk_cell BK381.out 5).trans rfl; have hfz33_0 := blk_frozen BK381.out 0; have hfz33_1 := blk_frozen BK381.out 1; have hfz33_2 := blk_frozen BK381.out 2; have hfz33_3 := blk_frozen BK381.out 3; have hfz33_4 := blk_frozen BK381.out 4; have hfz33_5 := blk_frozen BK381.out 5) | ((with_reducible refine gate_callee (f := 26) rfl ?_); refine goesL_ (some 20) rfl rfl Tryz.func26 zz29 rfl #[.pointer (some ⟨g, 0, none⟩)] rfl zz1 ?_; (with_reducible refine (cardexref08_walk_blanks.calls k g t386 t387 t388 t389 t390 w0 _ ?side1 ?side2 A5.out).mono ?_); (case side1 => exact zz13); (case side2 => exact zz14); rintro e w34 ⟨rfl, hi, hb, hk⟩; refine ⟨_, rfl, ?_⟩; have n0_ := Aside0.mk (KeepBut.blk hk (g' := gb380) (o := .cells #[.int .i64 0, .int .i64 0, .string (⟨#[]⟩ : ByteArray), .string (⟨#[]⟩ : ByteArray), .slice none 0 0, .bool false] 30 (0, 0)) (by (with_reducible repeat (first | refine blk_drewN ?_ _ | refine blk_drew ?_ | refine blk_alloc ?_ _)); refine blk_far ?_ NB380_381.out _; (with_reducible repeat (first | refine blk_drewN ?_ _ | refine blk_drew ?_ | refine blk_alloc ?_ _)); refine blk_far ?_ NB380_381.out _; (with_reducible repeat (first | refine blk_drewN ?_ _ | refine blk_drew ?_ | refine blk_alloc ?_ _)); exact BK380.out) NB380_0.out (by simp)); have n1_ := Aside0.mk (KeepBut.blk hk (g' := gb381) (o := .cells #[.int .i64 2, .int .i64 s0_1, .string t385, .string (⟨#[]⟩ : ByteArray), .slice none 0 0, .bool false] 30 (0, 0)) (by (with_reducible repeat (first | refine blk_drewN ?_ _ | refine blk_drew ?_ | refine blk_alloc ?_ _)); refine blk_put (cs := #[.int .i64 2, .int .i64 s0_1, .string (⟨#[]⟩ : ByteArray), .string (⟨#[]⟩ : ByteArray), .slice none 0 0, .bool false]) ?_ 2 _ rfl; (with_reducible repeat (first | refine blk_drewN ?_ _ | refine blk_drew ?_ | refine blk_alloc ?_ _)); refine blk_put (cs := #[.int .i64 0, .int .i64 s0_1, .string (⟨#[]⟩ : ByteArray), .string (⟨#[]⟩ : ByteArray), .slice none 0 0, .bool false]) ?_ 0 _ rfl; (with_reducible repeat (first | refine blk_drewN ?_ _ | refine blk_drew ?_ | refine blk_alloc ?_ _)); exact BK381.out) NB381_0.out (by simp)); have n2_ := Aside0.mk (KeepBut.trans zz16 hk (.inl rfl)); have n3_ := Aside0.mk (hb); have n4_ := Aside0.mk (hi); clear BK380; clear BK381; clear HK; clear HB; clear HI0; have BK380 := n0_; have BK381 := n1_; have HK := n2_; have HB := n3_; have HI0 := n4_; clear n0_ n1_ n2_ n3_ n4_; (try clear hb); (try clear hb2); (try clear hk); (try clear hi)))
      have n0_ := Aside0.mk (blk_drew BK380.out)
      have n1_ := Aside0.mk (blk_drew BK381.out)
      have n2_ := Aside0.mk (IsS41.drew HI0.out)
      have n3_ := Aside0.mk (keep_drew HK.out)
      have n4_ := Aside0.mk (below_drew1 HB.out)
      clear BK380
      clear BK381
      clear HI0
      clear HK
      clear HB
      have BK380 := n0_
      have BK381 := n1_
      have HI0 := n2_
      have HK := n3_
      have HB := n4_
      clear n0_ n1_ n2_ n3_ n4_
      refine start_ (n := 10) (S := fun w' => w'.cell? ⟨gb381, 0, none⟩ = some (.int .i64 2) ∧ w'.cell? ⟨gb381, 1, none⟩ = some (.int .i64 s0_1) ∧ w'.cell? ⟨gb381, 2, none⟩ = some (.string t385) ∧ w'.cell? ⟨gb381, 3, none⟩ = some (.string (⟨#[]⟩ : ByteArray)) ∧ w'.cell? ⟨gb381, 4, none⟩ = some (.slice none 0 0) ∧ w'.cell? ⟨gb381, 5, none⟩ = some (.bool false)) (ds := []) #[false, false, false, false, false, false, false, false, false, false] zz29 rfl rfl ⟨(blk_cell BK381.out 0).trans rfl, (blk_cell BK381.out 1).trans rfl, (blk_cell BK381.out 2).trans rfl, (blk_cell BK381.out 3).trans rfl, (blk_cell BK381.out 4).trans rfl, (blk_cell BK381.out 5).trans rfl⟩ (fun hHeld => ?_); refine with_tabW cardexref08_walk_token.tab5 cardexref08_walk_token.bits5 (fun HT_ HW_ => ?_)
      generalize w34.drew = w35 at BK380 BK381 HI0 HK HB hHeld ⊢
      refine pz 1 (some 22) ?_; refine t6 0 (some 21) ?_; refine t6 2 (some 23) ?_; refine pz 3 (some 24) ?_; refine pz 4 (some 25) ?_; refine pz 5 (some 26) ?_
      refine one_ (i := 6) (N := some 27) #[true, true, true, true, true, true, true, false, false, false] rfl rfl (one_of HT_.out zz29) (by decide) (fun K hK => ?_)
      refine goes_ Tryz.func14 zz29 rfl #[.pointer (some ⟨g, 0, none⟩), .string (⟨#[62]⟩ : ByteArray)] (by rfl) rfl rfl zz1 ?_
      with_reducible refine (cardexref08_walk_is.calls g t389 t390 (⟨#[62]⟩ : ByteArray) t391 t392 t393 w0 _ ?side1 ?side2 A24.out).mono ?_
      (case side1 => exact zz13)
      (case side2 => exact zz14)
      rintro e w36 ⟨rfl, hi, hb, hk⟩
      refine ⟨_, rfl, ?_⟩
      have n0_ := Aside0.mk (KeepBut.blk hk (g' := gb380) (o := .cells #[.int .i64 0, .int .i64 0, .string (⟨#[]⟩ : ByteArray), .string (⟨#[]⟩ : ByteArray), .slice none 0 0, .bool false] 30 (0, 0)) zz30 NB380_0.out (by simp))
      have n1_ := Aside0.mk (KeepBut.blk hk (g' := gb381) (o := .cells #[.int .i64 2, .int .i64 s0_1, .string t385, .string (⟨#[]⟩ : ByteArray), .slice none 0 0, .bool false] 30 (0, 0)) zz60 NB381_0.out (by simp))
      have n2_ := Aside0.mk (KeepBut.trans zz16 hk (.inl rfl))
      have n3_ := Aside0.mk (hb)
      have n4_ := Aside0.mk (hi)
      clear BK380
      clear BK381
      clear HK
      clear HB
      clear HI0
      have BK380 := n0_
      have BK381 := n1_
      have HK := n2_
      have HB := n3_
      have HI0 := n4_
      clear n0_ n1_ n2_ n3_ n4_
      (try clear hb)
      (try clear hb2)
      (try clear hk)
      (try clear hi)
      refine hK.out _ _ ⟨(blk_cell BK381.out 0).trans rfl, (blk_cell BK381.out 1).trans rfl, (blk_cell BK381.out 2).trans rfl, (blk_cell BK381.out 3).trans rfl, (blk_cell BK381.out 4).trans rfl, (blk_cell BK381.out 5).trans rfl⟩ (fun hHeld => ?_)
      clear hK K
      refine norm_ (a' := ?_) ?_ ?_
      rotate_left
      · show Act.put _ (some 27) _ = _
        simp only [Act.put, List.setIfInBounds_toArray, List.set_cons_zero, List.set_cons_succ, i64_w, i32_w]
        rfl
      refine pz 7 (some 28) ?_
      refine one_ (i := 8) (N := none) #[true, true, true, true, true, true, true, true, true, false] rfl rfl (one_of HT_.out zz29) (by decide) (fun K hK => ?_)
      have hs37 : w36.cell? ⟨gb380, 0, none⟩ = some (.int .i64 0) := (blk_cell BK380.out 0).trans rfl
      have hfs37 := blk_frozen BK380.out 0
      have hns37_1 := NB381_380.out
      have hms37_1 := NB380_381.out
      have hs38 : w36.cell? ⟨gb380, 1, none⟩ = some (.int .i64 0) := (blk_cell BK380.out 1).trans rfl
      have hfs38 := blk_frozen BK380.out 1
      have hns38_1 := NB381_380.out
      have hms38_1 := NB380_381.out
      have hs39 : w36.cell? ⟨gb380, 2, none⟩ = some (.string (⟨#[]⟩ : ByteArray)) := (blk_cell BK380.out 2).trans rfl
      have hfs39 := blk_frozen BK380.out 2
      have hns39_1 := NB381_380.out
      have hms39_1 := NB380_381.out
      have hs40 : w36.cell? ⟨gb380, 3, none⟩ = some (.string (⟨#[]⟩ : ByteArray)) := (blk_cell BK380.out 3).trans rfl
      have hfs40 := blk_frozen BK380.out 3
      have hns40_1 := NB381_380.out
      have hms40_1 := NB380_381.out
      have hs41 : w36.cell? ⟨gb380, 4, none⟩ = some (.slice none 0 0) := (blk_cell BK380.out 4).trans rfl
      have hfs41 := blk_frozen BK380.out 4
      have hns41_1 := NB381_380.out
      have hms41_1 := NB380_381.out
      have hs42 : w36.cell? ⟨gb380, 5, none⟩ = some (.bool false) := (blk_cell BK380.out 5).trans rfl
      have hfs42 := blk_frozen BK380.out 5
      have hns42_1 := NB381_380.out
      have hms42_1 := NB380_381.out
      refine skip_ (w1 := ?_) (by rfl) rfl ?_ ?_
      rotate_left
      · go_simp
        rfl
      refine hK.out _ _ ⟨((cell_far (p := ⟨gb380, _, none⟩) NB381_380.out _).trans (((cell_far (p := ⟨gb380, _, none⟩) NB381_380.out _).trans (((cell_far (p := ⟨gb380, _, none⟩) NB381_380.out _).trans (((cell_far (p := ⟨gb380, _, none⟩) NB381_380.out _).trans (((cell_far (p := ⟨gb380, _, none⟩) NB381_380.out _).trans (((cell_far (p := ⟨gb380, _, none⟩) NB381_380.out _).trans (hHeld.1)))))))))))), ((cell_far (p := ⟨gb380, _, none⟩) NB381_380.out _).trans (((cell_far (p := ⟨gb380, _, none⟩) NB381_380.out _).trans (((cell_far (p := ⟨gb380, _, none⟩) NB381_380.out _).trans (((cell_far (p := ⟨gb380, _, none⟩) NB381_380.out _).trans (((cell_far (p := ⟨gb380, _, none⟩) NB381_380.out _).trans (((cell_far (p := ⟨gb380, _, none⟩) NB381_380.out _).trans (hHeld.2.1)))))))))))), ((cell_far (p := ⟨gb380, _, none⟩) NB381_380.out _).trans (((cell_far (p := ⟨gb380, _, none⟩) NB381_380.out _).trans (((cell_far (p := ⟨gb380, _, none⟩) NB381_380.out _).trans (((cell_far (p := ⟨gb380, _, none⟩) NB381_380.out _).trans (((cell_far (p := ⟨gb380, _, none⟩) NB381_380.out _).trans (((cell_far (p := ⟨gb380, _, none⟩) NB381_380.out _).trans (hHeld.2.2.1)))))))))))), ((cell_far (p := ⟨gb380, _, none⟩) NB381_380.out _).trans (((cell_far (p := ⟨gb380, _, none⟩) NB381_380.out _).trans (((cell_far (p := ⟨gb380, _, none⟩) NB381_380.out _).trans (((cell_far (p := ⟨gb380, _, none⟩) NB381_380.out _).trans (((cell_far (p := ⟨gb380, _, none⟩) NB381_380.out _).trans (((cell_far (p := ⟨gb380, _, none⟩) NB381_380.out _).trans (hHeld.2.2.2.1)))))))))))), ((cell_far (p := ⟨gb380, _, none⟩) NB381_380.out _).trans (((cell_far (p := ⟨gb380, _, none⟩) NB381_380.out _).trans (((cell_far (p := ⟨gb380, _, none⟩) NB381_380.out _).trans (((cell_far (p := ⟨gb380, _, none⟩) NB381_380.out _).trans (((cell_far (p := ⟨gb380, _, none⟩) NB381_380.out _).trans (((cell_far (p := ⟨gb380, _, none⟩) NB381_380.out _).trans (hHeld.2.2.2.2.1)))))))))))), ((cell_far (p := ⟨gb380, _, none⟩) NB381_380.out _).trans (((cell_far (p := ⟨gb380, _, none⟩) NB381_380.out _).trans (((cell_far (p := ⟨gb380, _, none⟩) NB381_380.out _).trans (((cell_far (p := ⟨gb380, _, none⟩) NB381_380.out _).trans (((cell_far (p := ⟨gb380, _, none⟩) NB381_380.out _).trans (((cell_far (p := ⟨gb380, _, none⟩) NB381_380.out _).trans (hHeld.2.2.2.2.2))))))))))))⟩ (fun hHeld => ?_)
      clear hK K
      refine pz 9 (some 3) ?_
      refine done_ (done_of HT_.out zz29) ?_
      try go_wp2
      refine bodyPost_ret (results_ct rfl _ _ gb380 30 #[.int .i64 2, .int .i64 s0_1, .string t385, .string (⟨#[]⟩ : ByteArray), .slice none 0 0, .bool false] (0, 0) _ rfl (by (with_reducible repeat (first | refine blk_drewN ?_ _ | refine blk_drew ?_ | refine blk_alloc ?_ _)); refine blk_put (cs := #[.int .i64 2, .int .i64 s0_1, .string t385, .string (⟨#[]⟩ : ByteArray), .slice none 0 0, .bool false]) ?_ 5 _ rfl; (with_reducible repeat (first | refine blk_drewN ?_ _ | refine blk_drew ?_ | refine blk_alloc ?_ _)); refine blk_put (cs := #[.int .i64 2, .int .i64 s0_1, .string t385, .string (⟨#[]⟩ : ByteArray), .slice none 0 0, .bool false]) ?_ 4 _ rfl; (with_reducible repeat (first | refine blk_drewN ?_ _ | refine blk_drew ?_ | refine blk_alloc ?_ _)); refine blk_put (cs := #[.int .i64 2, .int .i64 s0_1, .string t385, .string (⟨#[]⟩ : ByteArray), .slice none 0 0, .bool false]) ?_ 3 _ rfl; (with_reducible repeat (first | refine blk_drewN ?_ _ | refine blk_drew ?_ | refine blk_alloc ?_ _)); refine blk_put (cs := #[.int .i64 2, .int .i64 s0_1, .string (⟨#[]⟩ : ByteArray), .string (⟨#[]⟩ : ByteArray), .slice none 0 0, .bool false]) ?_ 2 _ rfl; (with_reducible repeat (first | refine blk_drewN ?_ _ | refine blk_drew ?_ | refine blk_alloc ?_ _)); refine blk_put (cs := #[.int .i64 2, .int .i64 0, .string (⟨#[]⟩ : ByteArray), .string (⟨#[]⟩ : ByteArray), .slice none 0 0, .bool false]) ?_ 1 _ rfl; (with_reducible repeat (first | refine blk_drewN ?_ _ | refine blk_drew ?_ | refine blk_alloc ?_ _)); refine blk_put (cs := #[.int .i64 0, .int .i64 0, .string (⟨#[]⟩ : ByteArray), .string (⟨#[]⟩ : ByteArray), .slice none 0 0, .bool false]) ?_ 0 _ rfl; (with_reducible repeat (first | refine blk_drewN ?_ _ | refine blk_drew ?_ | refine blk_alloc ?_ _)); exact BK380.out) Tryz.underlying30 rfl zz29) rfl ?_
      exact ⟨_, zz4, zz40, zz13, zz14, zz16⟩
  · replace c3 := Bool.eq_false_iff.mpr c3
    subst c3
    have H1 : ((cardexref08_walk_is.f t383 t384 (⟨#[60]⟩ : ByteArray)).bind fun bt394 => (if bt394.1 = true then ((cardexref08_walk_open.f k bt394.2.1 bt394.2.2 0 s0_1 (⟨#[]⟩ : ByteArray) (⟨#[]⟩ : ByteArray) ([] : List (S45)) false).bind fun bt397 => (some (bt397.1, bt397.2.1, bt397.2.2.1, bt397.2.2.2.1, bt397.2.2.2.2.1, bt397.2.2.2.2.2.1, bt397.2.2.2.2.2.2.1, bt397.2.2.2.2.2.2.2.1, bt397.2.2.2.2.2.2.2.2))) else (cardexref08_walk_token.l0 k bt394.2.2 bt394.2.1 bt394.2.2 0 s0_1 (⟨#[]⟩ : ByteArray) (⟨#[]⟩ : ByteArray) false))) = some (r1, r2, r3, r4, r5, r6, r7, r8, r9) := by rw [if_neg (show ¬ (false = true) by decide)] at H; exact H
    clear H
    have H := H1
    clear H1
    replace H := Option.bind_eq_some_iff.mp H
    obtain ⟨⟨t394, t395, t396⟩, A430, H⟩ := H
    replace H : (if t394 = true then ((cardexref08_walk_open.f k t395 t396 0 s0_1 (⟨#[]⟩ : ByteArray) (⟨#[]⟩ : ByteArray) ([] : List (S45)) false).bind fun bt397 => (some (bt397.1, bt397.2.1, bt397.2.2.1, bt397.2.2.2.1, bt397.2.2.2.2.1, bt397.2.2.2.2.2.1, bt397.2.2.2.2.2.2.1, bt397.2.2.2.2.2.2.2.1, bt397.2.2.2.2.2.2.2.2))) else (cardexref08_walk_token.l0 k t396 t395 t396 0 s0_1 (⟨#[]⟩ : ByteArray) (⟨#[]⟩ : ByteArray) false)) = some (r1, r2, r3, r4, r5, r6, r7, r8, r9) := H
    have A43 := Aside0.mk A430
    clear A430
    by_cases c44 : t394 = true
    · subst c44
      have H1 : ((cardexref08_walk_open.f k t395 t396 0 s0_1 (⟨#[]⟩ : ByteArray) (⟨#[]⟩ : ByteArray) ([] : List (S45)) false).bind fun bt397 => (some (bt397.1, bt397.2.1, bt397.2.2.1, bt397.2.2.2.1, bt397.2.2.2.2.1, bt397.2.2.2.2.2.1, bt397.2.2.2.2.2.2.1, bt397.2.2.2.2.2.2.2.1, bt397.2.2.2.2.2.2.2.2))) = some (r1, r2, r3, r4, r5, r6, r7, r8, r9) := by rw [if_pos rfl] at H; exact H
      clear H
      have H := H1
      clear H1
      replace H := Option.bind_eq_some_iff.mp H
      obtain ⟨⟨t397, t398, t399, t400, t401, t404, t405, t406, t407⟩, A450, H⟩ := H
      replace H : (some (t397, t398, t399, t400, t401, t404, t405, t406, t407)) = some (r1, r2, r3, r4, r5, r6, r7, r8, r9) := H
      have A45 := Aside0.mk A450
      clear A450
      simp only [Option.some.injEq, Prod.mk.injEq] at H
      obtain ⟨rfl, rfl, rfl, rfl, rfl, rfl, rfl, rfl, rfl⟩ := H
      go_enter Tryz.func15, Tryz.ntmps15
      go_wp2_with (first | ((with_reducible refine gate_dst (N := 2) rfl ?_); refine box_event ?hg (N := 2) ?hd (cs := #[.int .i64 0, .int .i64 0, .string (⟨#[]⟩ : ByteArray), .string (⟨#[]⟩ : ByteArray), .slice none 0 0, .bool false]) (t := 30) ?hr ?_; (case hd => rfl); (case hg => rfl); (case hr => exact zz28); intro gb380 hg w46 hbox hb; have n0_ := Aside0.mk (IsS41.below zz8 hb); have n1_ := Aside0.mk (KeepBut.trans zz3 (KeepBut.of_below hb g none) (.inl rfl)); have n2_ := Aside0.mk (below_step zz7 hb); have n3_ := Aside0.mk (hbox); have n4_ := Aside0.mk ((by rw [hg]; exact (keep_size (w := w) (g := g) (row := none) zz3) : w.heap.size ≤ gb380)); have n5_ := Aside0.mk ((Nat.le_trans HW0.out (by rw [hg]; exact (keep_size (w := w) (g := g) (row := none) zz3) : w.heap.size ≤ gb380) : w0.heap.size ≤ gb380)); have n6_ := Aside0.mk ((by rw [hg]; exact Nat.ne_of_lt (IsS41.lt (show IsS41 w0 _ g s0_0 s0_1 from by repeat (first | (with_reducible first | exact HI0.out | apply IsS41.alloc | apply IsS41.drewN | apply IsS41.drew | apply IsS41.set_0 | apply IsS41.set_1) | exact HI0.out))) : g ≠ gb380)); have n7_ := Aside0.mk ((by rw [hg]; exact Nat.ne_of_gt (IsS41.lt (show IsS41 w0 _ g s0_0 s0_1 from by repeat (first | (with_reducible first | exact HI0.out | apply IsS41.alloc | apply IsS41.drewN | apply IsS41.drew | apply IsS41.set_0 | apply IsS41.set_1) | exact HI0.out))) : gb380 ≠ g)); clear HI0; clear HK; clear HB; have HI0 := n0_; have HK := n1_; have HB := n2_; have BK380 := n3_; have GW380 := n4_; have GE380 := n5_; have NB0_380 := n6_; have NB380_0 := n7_; clear n0_ n1_ n2_ n3_ n4_ n5_ n6_ n7_; clear hb hbox hg; obtain ⟨HGz47, hgz47⟩ := HI0.out; have hcz47_0 := cellS41_0 HGz47; have hcz47_1 := cellS41_1 HGz47; have hfz47_0 := blk_frozen HGz47 0; have hfz47_1 := blk_frozen HGz47 1; clear HGz47 hgz47) | ((with_reducible refine gate_dst (N := 4) rfl ?_); refine box_event ?hg (N := 4) ?hd (cs := #[.int .i64 0, .int .i64 0, .string (⟨#[]⟩ : ByteArray), .string (⟨#[]⟩ : ByteArray), .slice none 0 0, .bool false]) (t := 30) ?hr ?_; (case hd => rfl); (case hg => rfl); (case hr => exact zz28); intro gb381 hg w48 hbox hb; have n0_ := Aside0.mk (IsS41.below zz68 hb); have n1_ := Aside0.mk (blk_below (g := gb380) (o := .cells #[.int .i64 0, .int .i64 0, .string (⟨#[]⟩ : ByteArray), .string (⟨#[]⟩ : ByteArray), .slice none 0 0, .bool false] 30 (0, 0)) zz30 hb); have n2_ := Aside0.mk (KeepBut.trans zz35 (KeepBut.of_below hb g none) (.inl rfl)); have n3_ := Aside0.mk (below_step zz70 hb); have n4_ := Aside0.mk (hbox); have n5_ := Aside0.mk ((by rw [hg]; exact (keep_size (w := w) (g := g) (row := none) zz35) : w.heap.size ≤ gb381)); have n6_ := Aside0.mk ((Nat.le_trans HW0.out (by rw [hg]; exact (keep_size (w := w) (g := g) (row := none) zz35) : w.heap.size ≤ gb381) : w0.heap.size ≤ gb381)); have n7_ := Aside0.mk ((by rw [hg]; exact Nat.ne_of_lt (blk_lt (g := gb380) (o := .cells #[.int .i64 0, .int .i64 0, .string (⟨#[]⟩ : ByteArray), .string (⟨#[]⟩ : ByteArray), .slice none 0 0, .bool false] 30 (0, 0)) zz30) : gb380 ≠ gb381)); have n8_ := Aside0.mk ((by rw [hg]; exact Nat.ne_of_gt (blk_lt (g := gb380) (o := .cells #[.int .i64 0, .int .i64 0, .string (⟨#[]⟩ : ByteArray), .string (⟨#[]⟩ : ByteArray), .slice none 0 0, .bool false] 30 (0, 0)) zz30) : gb381 ≠ gb380)); have n9_ := Aside0.mk ((by rw [hg]; exact Nat.ne_of_lt (IsS41.lt (show IsS41 w0 _ g s0_0 s0_1 from by repeat (first | (with_reducible first | exact HI0.out | apply IsS41.alloc | apply IsS41.drewN | apply IsS41.drew | apply IsS41.set_0 | apply IsS41.set_1 | refine IsS41.far ?_ NB0_380.out _) | exact HI0.out))) : g ≠ gb381)); have n10_ := Aside0.mk ((by rw [hg]; exact Nat.ne_of_gt (IsS41.lt (show IsS41 w0 _ g s0_0 s0_1 from by repeat (first | (with_reducible first | exact HI0.out | apply IsS41.alloc | apply IsS41.drewN | apply IsS41.drew | apply IsS41.set_0 | apply IsS41.set_1 | refine IsS41.far ?_ NB0_380.out _) | exact HI0.out))) : gb381 ≠ g)); clear HI0; clear BK380; clear HK; clear HB; have HI0 := n0_; have BK380 := n1_; have HK := n2_; have HB := n3_; have BK381 := n4_; have GW381 := n5_; have GE381 := n6_; have NB380_381 := n7_; have NB381_380 := n8_; have NB0_381 := n9_; have NB381_0 := n10_; clear n0_ n1_ n2_ n3_ n4_ n5_ n6_ n7_ n8_ n9_ n10_; clear hb hbox hg; have hnb49 := NB381_380.out; have hnc49 := NB380_381.out; have hnb50 := NB381_0.out; have hnc50 := NB0_381.out; have hcz51_0 : w48.cell? ⟨gb381, 0, none⟩ = some (.int .i64 0) := (blk_cell BK381.out 0).trans rfl; have hcz51_1 : w48.cell? ⟨gb381, 1, none⟩ = some (.int .i64 0) := (blk_cell BK381.out 1).trans rfl; have hcz51_2 : w48.cell? ⟨gb381, 2, none⟩ = some (.string (⟨#[]⟩ : ByteArray)) := (blk_cell BK381.out 2).trans rfl; have hcz51_3 : w48.cell? ⟨gb381, 3, none⟩ = some (.string (⟨#[]⟩ : ByteArray)) := (blk_cell BK381.out 3).trans rfl; have hcz51_4 : w48.cell? ⟨gb381, 4, none⟩ = some (.slice none 0 0) := (blk_cell BK381.out 4).trans rfl; have hcz51_5 : w48.cell? ⟨gb381, 5, none⟩ = some (.bool false) := (blk_cell BK381.out 5).trans rfl; have hfz51_0 := blk_frozen BK381.out 0; have hfz51_1 := blk_frozen BK381.out 1; have hfz51_2 := blk_frozen BK381.out 2; have hfz51_3 := blk_frozen BK381.out 3; have hfz51_4 := blk_frozen BK381.out 4; have hfz51_5 := blk_frozen BK381.out 5) | ((with_reducible refine gate_callee (f := 14) rfl ?_); refine goesL_ (some 14) rfl rfl Tryz.func14 zz29 rfl #[.pointer (some ⟨g, 0, none⟩), .string (⟨#[60, 47]⟩ : ByteArray)] rfl zz1 ?_; (with_reducible refine (cardexref08_walk_is.calls g s0_0 s0_1 (⟨#[60, 47]⟩ : ByteArray) false t383 t384 w0 _ ?side1 ?side2 A2.out).mono ?_); (case side1 => exact zz13); (case side2 => exact zz14); rintro e w52 ⟨rfl, hi, hb, hk⟩; refine ⟨_, rfl, ?_⟩; have n0_ := Aside0.mk (KeepBut.blk hk (g' := gb380) (o := .cells #[.int .i64 0, .int .i64 0, .string (⟨#[]⟩ : ByteArray), .string (⟨#[]⟩ : ByteArray), .slice none 0 0, .bool false] 30 (0, 0)) zz24 NB380_0.out (by simp)); have n1_ := Aside0.mk (KeepBut.blk hk (g' := gb381) (o := .cells #[.int .i64 0, .int .i64 s0_1, .string (⟨#[]⟩ : ByteArray), .string (⟨#[]⟩ : ByteArray), .slice none 0 0, .bool false] 30 (0, 0)) zz11 NB381_0.out (by simp)); have n2_ := Aside0.mk (KeepBut.trans zz16 hk (.inl rfl)); have n3_ := Aside0.mk (hb); have n4_ := Aside0.mk (hi); clear BK380; clear BK381; clear HK; clear HB; clear HI0; have BK380 := n0_; have BK381 := n1_; have HK := n2_; have HB := n3_; have HI0 := n4_; clear n0_ n1_ n2_ n3_ n4_; (try clear hb); (try clear hb2); (try clear hk); (try clear hi)) | ((with_reducible refine gate_callee (f := 14) rfl ?_); refine goesL_ (some 30) rfl rfl Tryz.func14 zz29 rfl #[.pointer (some ⟨g, 0, none⟩), .string (⟨#[60]⟩ : ByteArray)] rfl zz1 ?_; (with_reducible refine (cardexref08_walk_is.calls g t383 t384 (⟨#[60]⟩ : ByteArray) true t395 t396 w0 _ ?side1 ?side2 A43.out).mono ?_); (case side1 => exact zz13); (case side2 => exact zz14); rintro e w53 ⟨rfl, hi, hb, hk⟩; refine ⟨_, rfl, ?_⟩; have n0_ := Aside0.mk (KeepBut.blk hk (g' := gb380) (o := .cells #[.int .i64 0, .int .i64 0, .string (⟨#[]⟩ : ByteArray), .string (⟨#[]⟩ : ByteArray), .slice none 0 0, .bool false] 30 (0, 0)) zz30 NB380_0.out (by simp)); have n1_ := Aside0.mk (KeepBut.blk hk (g' := gb381) (o := .cells #[.int .i64 0, .int .i64 s0_1, .string (⟨#[]⟩ : ByteArray), .string (⟨#[]⟩ : ByteArray), .slice none 0 0, .bool false] 30 (0, 0)) zz60 NB381_0.out (by simp)); have n2_ := Aside0.mk (KeepBut.trans zz16 hk (.inl rfl)); have n3_ := Aside0.mk (hb); have n4_ := Aside0.mk (hi); clear BK380; clear BK381; clear HK; clear HB; clear HI0; have BK380 := n0_; have BK381 := n1_; have HK := n2_; have HB := n3_; have HI0 := n4_; clear n0_ n1_ n2_ n3_ n4_; (try clear hb); (try clear hb2); (try clear hk); (try clear hi); have hcz54_0 : w53.cell? ⟨gb381, 0, none⟩ = some (.int .i64 0) := (blk_cell BK381.out 0).trans rfl; have hcz54_1 : w53.cell? ⟨gb381, 1, none⟩ = some (.int .i64 s0_1) := (blk_cell BK381.out 1).trans rfl; have hcz54_2 : w53.cell? ⟨gb381, 2, none⟩ = some (.string (⟨#[]⟩ : ByteArray)) := (blk_cell BK381.out 2).trans rfl; have hcz54_3 : w53.cell? ⟨gb381, 3, none⟩ = some (.string (⟨#[]⟩ : ByteArray)) := (blk_cell BK381.out 3).trans rfl; have hcz54_4 : w53.cell? ⟨gb381, 4, none⟩ = some (.slice none 0 0) := (blk_cell BK381.out 4).trans rfl; have hcz54_5 : w53.cell? ⟨gb381, 5, none⟩ = some (.bool false) := (blk_cell BK381.out 5).trans rfl; have hfz54_0 := blk_frozen BK381.out 0; have hfz54_1 := blk_frozen BK381.out 1; have hfz54_2 := blk_frozen BK381.out 2; have hfz54_3 := blk_frozen BK381.out 3; have hfz54_4 := blk_frozen BK381.out 4; have hfz54_5 := blk_frozen BK381.out 5) | ((with_reducible refine gate_callee (f := 27) rfl ?_); refine goesL_ (some 33) rfl rfl Tryz.func27 zz29 rfl #[.pointer (some ⟨g, 0, none⟩), .agg #[.int .i64 0, .int .i64 s0_1, .string (⟨#[]⟩ : ByteArray), .string (⟨#[]⟩ : ByteArray), .slice none 0 0, .bool false]] rfl zz1 ?_; (refine (cardexref08_walk_open.calls k g t395 t396 0 s0_1 (⟨#[]⟩ : ByteArray) (⟨#[]⟩ : ByteArray) (fun k_ => some k_ = (.slice none 0 0 : Value).ownBlock) (.slice none 0 0) ([] : List (S45)) false t397 t398 t399 t400 t401 t404 t405 t406 t407 w0 _ ?side1 ?side2 ?side3 A45.out).mono ?_); (case side1 => exact zz13); (case side2 => exact zz14); (case side3 => exact Kd.R_nil _ _ _ _ _); rintro e w55 ⟨v402, rfl, ho0, hi, hb, hkp⟩; refine ⟨_, rfl, ?_⟩; have n0_ := Aside0.mk (hi); have n1_ := Aside0.mk (blk_kept zz30 hkp (fun hs_ => Or.elim hs_ (fun hs_ => (fun e_ => by simp [Value.ownBlock] at e_) hs_) (fun e_ => NB380_0.out e_))); have n2_ := Aside0.mk (blk_kept zz60 hkp (fun hs_ => Or.elim hs_ (fun hs_ => (fun e_ => by simp [Value.ownBlock] at e_) hs_) (fun e_ => NB381_0.out e_))); have n3_ := Aside0.mk (Kd.R_mono (ok' := fun k_ => True) (Kd.R_raise (d := k45) (b := w0.heap.size) (b' := w.heap.size) (fun _ _ _ _ h_ => h_) ho0 (fun k_ e_ => Or.elim (ho0.1 k_ e_) (fun hs_ => (fun e_ => by simp [Value.ownBlock] at e_) hs_) (fun hn_ => Nat.le_trans (keep_size (w := w) (g := g) (row := none) zz16) hn_))) (fun k_ hk_ => trivial)); have n4_ := Aside0.mk (Kept.keepG zz16 hkp (fun k_ hs_ => Or.elim hs_ (fun hs_ => (fun e_ => by simp [Value.ownBlock] at e_) hs_) (fun e_ => .inl e_))); have n5_ := Aside0.mk (hb); clear HI0; clear BK380; clear BK381; clear HK; clear HB; have HI0 := n0_; have BK380 := n1_; have BK381 := n2_; have HO403 := n3_; have HK := n4_; have HB := n5_; clear n0_ n1_ n2_ n3_ n4_ n5_; (try clear hb); (try clear hkp); (try clear ho0); have hnb56 := NB380_0.out; have hnc56 := NB0_380.out; have hcz57_0 : w55.cell? ⟨gb380, 0, none⟩ = some (.int .i64 0) := (blk_cell BK380.out 0).trans rfl; have hcz57_1 : w55.cell? ⟨gb380, 1, none⟩ = some (.int .i64 0) := (blk_cell BK380.out 1).trans rfl; have hcz57_2 : w55.cell? ⟨gb380, 2, none⟩ = some (.string (⟨#[]⟩ : ByteArray)) := (blk_cell BK380.out 2).trans rfl; have hcz57_3 : w55.cell? ⟨gb380, 3, none⟩ = some (.string (⟨#[]⟩ : ByteArray)) := (blk_cell BK380.out 3).trans rfl; have hcz57_4 : w55.cell? ⟨gb380, 4, none⟩ = some (.slice none 0 0) := (blk_cell BK380.out 4).trans rfl; have hcz57_5 : w55.cell? ⟨gb380, 5, none⟩ = some (.bool false) := (blk_cell BK380.out 5).trans rfl; have hfz57_0 := blk_frozen BK380.out 0; have hfz57_1 := blk_frozen BK380.out 1; have hfz57_2 := blk_frozen BK380.out 2; have hfz57_3 := blk_frozen BK380.out 3; have hfz57_4 := blk_frozen BK380.out 4; have hfz57_5 := blk_frozen BK380.out 5; obtain ⟨Ao58, co58, eo58⟩ := Kd.R_slice HO403.out; subst eo58))
      refine bodyPost_ret (results_ct rfl _ _ gb380 30 #[.int .i64 t397, .int .i64 t398, .string t399, .string t400, .slice Ao58 t401.length co58, .bool t404] (0, 0) _ rfl (by (with_reducible repeat (first | refine blk_drewN ?_ _ | refine blk_drew ?_ | refine blk_alloc ?_ _)); refine blk_put (cs := #[.int .i64 t397, .int .i64 t398, .string t399, .string t400, .slice Ao58 t401.length co58, .bool false]) ?_ 5 _ rfl; (with_reducible repeat (first | refine blk_drewN ?_ _ | refine blk_drew ?_ | refine blk_alloc ?_ _)); refine blk_put (cs := #[.int .i64 t397, .int .i64 t398, .string t399, .string t400, .slice none 0 0, .bool false]) ?_ 4 _ rfl; (with_reducible repeat (first | refine blk_drewN ?_ _ | refine blk_drew ?_ | refine blk_alloc ?_ _)); refine blk_put (cs := #[.int .i64 t397, .int .i64 t398, .string t399, .string (⟨#[]⟩ : ByteArray), .slice none 0 0, .bool false]) ?_ 3 _ rfl; (with_reducible repeat (first | refine blk_drewN ?_ _ | refine blk_drew ?_ | refine blk_alloc ?_ _)); refine blk_put (cs := #[.int .i64 t397, .int .i64 t398, .string (⟨#[]⟩ : ByteArray), .string (⟨#[]⟩ : ByteArray), .slice none 0 0, .bool false]) ?_ 2 _ rfl; (with_reducible repeat (first | refine blk_drewN ?_ _ | refine blk_drew ?_ | refine blk_alloc ?_ _)); refine blk_put (cs := #[.int .i64 t397, .int .i64 0, .string (⟨#[]⟩ : ByteArray), .string (⟨#[]⟩ : ByteArray), .slice none 0 0, .bool false]) ?_ 1 _ rfl; (with_reducible repeat (first | refine blk_drewN ?_ _ | refine blk_drew ?_ | refine blk_alloc ?_ _)); refine blk_put (cs := #[.int .i64 0, .int .i64 0, .string (⟨#[]⟩ : ByteArray), .string (⟨#[]⟩ : ByteArray), .slice none 0 0, .bool false]) ?_ 0 _ rfl; (with_reducible repeat (first | refine blk_drewN ?_ _ | refine blk_drew ?_ | refine blk_alloc ?_ _)); exact BK380.out) Tryz.underlying30 rfl zz29) rfl ?_
      exact ⟨_, zz4, by (with_reducible repeat (first | apply Kd.R_alloc | apply Kd.R_drewN | apply Kd.R_drew)); exact Kd.R_mono (Kd.R_far (p := ⟨gb380, 5, none⟩) (Kd.R_far (p := ⟨gb380, 4, none⟩) (Kd.R_far (p := ⟨gb380, 3, none⟩) (Kd.R_far (p := ⟨gb380, 2, none⟩) (Kd.R_far (p := ⟨gb380, 1, none⟩) (Kd.R_far (p := ⟨gb380, 0, none⟩) (Kd.R_types HO403.out BK380.out (by decide)) (fun _ hk => hk.2) (.int .i64 t397)) (fun _ hk => hk.2) (.int .i64 t398)) (fun _ hk => hk.2) (.string t399)) (fun _ hk => hk.2) (.string t400)) (fun _ hk => hk.2) (.slice Ao58 t401.length co58)) (fun _ hk => hk.2) (.bool t404)) (fun _ hk => trivial), zz13, zz14, zz16⟩
    · replace c44 := Bool.eq_false_iff.mpr c44
      subst c44
      have H1 : (cardexref08_walk_token.l0 k t396 t395 t396 0 s0_1 (⟨#[]⟩ : ByteArray) (⟨#[]⟩ : ByteArray) false) = some (r1, r2, r3, r4, r5, r6, r7, r8, r9) := by rw [if_neg (show ¬ (false = true) by decide)] at H; exact H
      clear H
      have H := H1
      clear H1
      have H' := Aside0.mk H
      clear H
      go_enter Tryz.func15, Tryz.ntmps15
      go_wp2_with (first | ((with_reducible refine gate_dst (N := 2) rfl ?_); refine box_event ?hg (N := 2) ?hd (cs := #[.int .i64 0, .int .i64 0, .string (⟨#[]⟩ : ByteArray), .string (⟨#[]⟩ : ByteArray), .slice none 0 0, .bool false]) (t := 30) ?hr ?_; (case hd => rfl); (case hg => rfl); (case hr => exact zz28); intro gb380 hg w59 hbox hb; have n0_ := Aside0.mk (IsS41.below zz8 hb); have n1_ := Aside0.mk (KeepBut.trans zz3 (KeepBut.of_below hb g none) (.inl rfl)); have n2_ := Aside0.mk (below_step zz7 hb); have n3_ := Aside0.mk (hbox); have n4_ := Aside0.mk ((by rw [hg]; exact (keep_size (w := w) (g := g) (row := none) zz3) : w.heap.size ≤ gb380)); have n5_ := Aside0.mk ((Nat.le_trans HW0.out (by rw [hg]; exact (keep_size (w := w) (g := g) (row := none) zz3) : w.heap.size ≤ gb380) : w0.heap.size ≤ gb380)); have n6_ := Aside0.mk ((by rw [hg]; exact Nat.ne_of_lt (IsS41.lt (show IsS41 w0 _ g s0_0 s0_1 from by repeat (first | (with_reducible first | exact HI0.out | apply IsS41.alloc | apply IsS41.drewN | apply IsS41.drew | apply IsS41.set_0 | apply IsS41.set_1) | exact HI0.out))) : g ≠ gb380)); have n7_ := Aside0.mk ((by rw [hg]; exact Nat.ne_of_gt (IsS41.lt (show IsS41 w0 _ g s0_0 s0_1 from by repeat (first | (with_reducible first | exact HI0.out | apply IsS41.alloc | apply IsS41.drewN | apply IsS41.drew | apply IsS41.set_0 | apply IsS41.set_1) | exact HI0.out))) : gb380 ≠ g)); clear HI0; clear HK; clear HB; have HI0 := n0_; have HK := n1_; have HB := n2_; have BK380 := n3_; have GW380 := n4_; have GE380 := n5_; have NB0_380 := n6_; have NB380_0 := n7_; clear n0_ n1_ n2_ n3_ n4_ n5_ n6_ n7_; clear hb hbox hg; obtain ⟨HGz60, hgz60⟩ := HI0.out; have hcz60_0 := cellS41_0 HGz60; have hcz60_1 := cellS41_1 HGz60; have hfz60_0 := blk_frozen HGz60 0; have hfz60_1 := blk_frozen HGz60 1; clear HGz60 hgz60) | ((with_reducible refine gate_dst (N := 4) rfl ?_); refine box_event ?hg (N := 4) ?hd (cs := #[.int .i64 0, .int .i64 0, .string (⟨#[]⟩ : ByteArray), .string (⟨#[]⟩ : ByteArray), .slice none 0 0, .bool false]) (t := 30) ?hr ?_; (case hd => rfl); (case hg => rfl); (case hr => exact zz28); intro gb381 hg w61 hbox hb; have n0_ := Aside0.mk (IsS41.below zz68 hb); have n1_ := Aside0.mk (blk_below (g := gb380) (o := .cells #[.int .i64 0, .int .i64 0, .string (⟨#[]⟩ : ByteArray), .string (⟨#[]⟩ : ByteArray), .slice none 0 0, .bool false] 30 (0, 0)) zz30 hb); have n2_ := Aside0.mk (KeepBut.trans zz35 (KeepBut.of_below hb g none) (.inl rfl)); have n3_ := Aside0.mk (below_step zz70 hb); have n4_ := Aside0.mk (hbox); have n5_ := Aside0.mk ((by rw [hg]; exact (keep_size (w := w) (g := g) (row := none) zz35) : w.heap.size ≤ gb381)); have n6_ := Aside0.mk ((Nat.le_trans HW0.out (by rw [hg]; exact (keep_size (w := w) (g := g) (row := none) zz35) : w.heap.size ≤ gb381) : w0.heap.size ≤ gb381)); have n7_ := Aside0.mk ((by rw [hg]; exact Nat.ne_of_lt (blk_lt (g := gb380) (o := .cells #[.int .i64 0, .int .i64 0, .string (⟨#[]⟩ : ByteArray), .string (⟨#[]⟩ : ByteArray), .slice none 0 0, .bool false] 30 (0, 0)) zz30) : gb380 ≠ gb381)); have n8_ := Aside0.mk ((by rw [hg]; exact Nat.ne_of_gt (blk_lt (g := gb380) (o := .cells #[.int .i64 0, .int .i64 0, .string (⟨#[]⟩ : ByteArray), .string (⟨#[]⟩ : ByteArray), .slice none 0 0, .bool false] 30 (0, 0)) zz30) : gb381 ≠ gb380)); have n9_ := Aside0.mk ((by rw [hg]; exact Nat.ne_of_lt (IsS41.lt (show IsS41 w0 _ g s0_0 s0_1 from by repeat (first | (with_reducible first | exact HI0.out | apply IsS41.alloc | apply IsS41.drewN | apply IsS41.drew | apply IsS41.set_0 | apply IsS41.set_1 | refine IsS41.far ?_ NB0_380.out _) | exact HI0.out))) : g ≠ gb381)); have n10_ := Aside0.mk ((by rw [hg]; exact Nat.ne_of_gt (IsS41.lt (show IsS41 w0 _ g s0_0 s0_1 from by repeat (first | (with_reducible first | exact HI0.out | apply IsS41.alloc | apply IsS41.drewN | apply IsS41.drew | apply IsS41.set_0 | apply IsS41.set_1 | refine IsS41.far ?_ NB0_380.out _) | exact HI0.out))) : gb381 ≠ g)); clear HI0; clear BK380; clear HK; clear HB; have HI0 := n0_; have BK380 := n1_; have HK := n2_; have HB := n3_; have BK381 := n4_; have GW381 := n5_; have GE381 := n6_; have NB380_381 := n7_; have NB381_380 := n8_; have NB0_381 := n9_; have NB381_0 := n10_; clear n0_ n1_ n2_ n3_ n4_ n5_ n6_ n7_ n8_ n9_ n10_; clear hb hbox hg; have hnb62 := NB381_380.out; have hnc62 := NB380_381.out; have hnb63 := NB381_0.out; have hnc63 := NB0_381.out; have hcz64_0 : w61.cell? ⟨gb381, 0, none⟩ = some (.int .i64 0) := (blk_cell BK381.out 0).trans rfl; have hcz64_1 : w61.cell? ⟨gb381, 1, none⟩ = some (.int .i64 0) := (blk_cell BK381.out 1).trans rfl; have hcz64_2 : w61.cell? ⟨gb381, 2, none⟩ = some (.string (⟨#[]⟩ : ByteArray)) := (blk_cell BK381.out 2).trans rfl; have hcz64_3 : w61.cell? ⟨gb381, 3, none⟩ = some (.string (⟨#[]⟩ : ByteArray)) := (blk_cell BK381.out 3).trans rfl; have hcz64_4 : w61.cell? ⟨gb381, 4, none⟩ = some (.slice none 0 0) := (blk_cell BK381.out 4).trans rfl; have hcz64_5 : w61.cell? ⟨gb381, 5, none⟩ = some (.bool false) := (blk_cell BK381.out 5).trans rfl; have hfz64_0 := blk_frozen BK381.out 0; have hfz64_1 := blk_frozen BK381.out 1; have hfz64_2 := blk_frozen BK381.out 2; have hfz64_3 := blk_frozen BK381.out 3; have hfz64_4 := blk_frozen BK381.out 4; have hfz64_5 := blk_frozen BK381.out 5) | ((with_reducible refine gate_callee (f := 14) rfl ?_); refine goesL_ (some 14) rfl rfl Tryz.func14 zz29 rfl #[.pointer (some ⟨g, 0, none⟩), .string (⟨#[60, 47]⟩ : ByteArray)] rfl zz1 ?_; (with_reducible refine (cardexref08_walk_is.calls g s0_0 s0_1 (⟨#[60, 47]⟩ : ByteArray) false t383 t384 w0 _ ?side1 ?side2 A2.out).mono ?_); (case side1 => exact zz13); (case side2 => exact zz14); rintro e w65 ⟨rfl, hi, hb, hk⟩; refine ⟨_, rfl, ?_⟩; have n0_ := Aside0.mk (KeepBut.blk hk (g' := gb380) (o := .cells #[.int .i64 0, .int .i64 0, .string (⟨#[]⟩ : ByteArray), .string (⟨#[]⟩ : ByteArray), .slice none 0 0, .bool false] 30 (0, 0)) zz24 NB380_0.out (by simp)); have n1_ := Aside0.mk (KeepBut.blk hk (g' := gb381) (o := .cells #[.int .i64 0, .int .i64 s0_1, .string (⟨#[]⟩ : ByteArray), .string (⟨#[]⟩ : ByteArray), .slice none 0 0, .bool false] 30 (0, 0)) zz11 NB381_0.out (by simp)); have n2_ := Aside0.mk (KeepBut.trans zz16 hk (.inl rfl)); have n3_ := Aside0.mk (hb); have n4_ := Aside0.mk (hi); clear BK380; clear BK381; clear HK; clear HB; clear HI0; have BK380 := n0_; have BK381 := n1_; have HK := n2_; have HB := n3_; have HI0 := n4_; clear n0_ n1_ n2_ n3_ n4_; (try clear hb); (try clear hb2); (try clear hk); (try clear hi)) | ((with_reducible refine gate_callee (f := 14) rfl ?_); refine goesL_ (some 30) rfl rfl Tryz.func14 zz29 rfl #[.pointer (some ⟨g, 0, none⟩), .string (⟨#[60]⟩ : ByteArray)] rfl zz1 ?_; (with_reducible refine (cardexref08_walk_is.calls g t383 t384 (⟨#[60]⟩ : ByteArray) false t395 t396 w0 _ ?side1 ?side2 A43.out).mono ?_); (case side1 => exact zz13); (case side2 => exact zz14); rintro e w66 ⟨rfl, hi, hb, hk⟩; refine ⟨_, rfl, ?_⟩; have n0_ := Aside0.mk (KeepBut.blk hk (g' := gb380) (o := .cells #[.int .i64 0, .int .i64 0, .string (⟨#[]⟩ : ByteArray), .string (⟨#[]⟩ : ByteArray), .slice none 0 0, .bool false] 30 (0, 0)) zz30 NB380_0.out (by simp)); have n1_ := Aside0.mk (KeepBut.blk hk (g' := gb381) (o := .cells #[.int .i64 0, .int .i64 s0_1, .string (⟨#[]⟩ : ByteArray), .string (⟨#[]⟩ : ByteArray), .slice none 0 0, .bool false] 30 (0, 0)) zz60 NB381_0.out (by simp)); have n2_ := Aside0.mk (KeepBut.trans zz16 hk (.inl rfl)); have n3_ := Aside0.mk (hb); have n4_ := Aside0.mk (hi); clear BK380; clear BK381; clear HK; clear HB; clear HI0; have BK380 := n0_; have BK381 := n1_; have HK := n2_; have HB := n3_; have HI0 := n4_; clear n0_ n1_ n2_ n3_ n4_; (try clear hb); (try clear hb2); (try clear hk); (try clear hi); obtain ⟨HGz67, hgz67⟩ := HI0.out; have hcz67_0 := cellS41_0 HGz67; have hcz67_1 := cellS41_1 HGz67; have hfz67_0 := blk_frozen HGz67 0; have hfz67_1 := blk_frozen HGz67 1; clear HGz67 hgz67))
      go_loopg [] k (fun kq w' => ∃ (x1001_1 : Int), Aside0 (cardexref08_walk_token.l0 kq t396 t395 x1001_1 0 s0_1 (⟨#[]⟩ : ByteArray) (⟨#[]⟩ : ByteArray) false = some (r1, r2, r3, r4, r5, r6, r7, r8, r9)) ∧ Aside0 (kq ≤ k) ∧ Aside0 (w'.heap[gb380]? = some (.cells #[.int .i64 0, .int .i64 0, .string (⟨#[]⟩ : ByteArray), .string (⟨#[]⟩ : ByteArray), (.slice none 0 0), .bool false] 30 (0, 0))) ∧ Aside0 (w'.heap[gb381]? = some (.cells #[.int .i64 0, .int .i64 s0_1, .string (⟨#[]⟩ : ByteArray), .string (⟨#[]⟩ : ByteArray), (.slice none 0 0), .bool false] 30 (0, 0))) ∧ Aside0 (IsS41 w0 w' g t395 x1001_1) ∧ Aside0 (KeepBut w w' g none) ∧ Aside0 (Below w0.heap.size w0 w'))
      case atStart => exact ⟨(t396), H', ⟨Nat.le_refl _⟩, ⟨zz30⟩, ⟨zz60⟩, ⟨zz13⟩, ⟨zz16⟩, ⟨zz14⟩⟩
      case round =>
        clear H'
        try clear c1
        try clear c2
        try clear p2
        try clear c3
        try clear c4
        try clear c5
        try clear c6
        try clear c6b0
        try clear c6b1
        try clear c10
        try clear c11
        try clear c14
        try clear c15
        try clear c25
        try clear c26
        try clear c27
        try clear c28
        try clear c29
        try clear c44
        try clear c49
        try clear c50
        try clear c56
        try clear c62
        try clear c63
        try clear hcz12_0
        try clear hcz12_1
        try clear hcz12_2
        try clear hcz12_3
        try clear hcz12_4
        try clear hcz12_5
        try clear hcz15_0
        try clear hcz15_1
        try clear hcz15_2
        try clear hcz15_3
        try clear hcz15_4
        try clear hcz15_5
        try clear hcz26_0
        try clear hcz26_1
        try clear hcz30_0
        try clear hcz30_1
        try clear hcz30_2
        try clear hcz30_3
        try clear hcz30_4
        try clear hcz30_5
        try clear hcz33_0
        try clear hcz33_1
        try clear hcz33_2
        try clear hcz33_3
        try clear hcz33_4
        try clear hcz33_5
        try clear hcz47_0
        try clear hcz47_1
        try clear hcz51_0
        try clear hcz51_1
        try clear hcz51_2
        try clear hcz51_3
        try clear hcz51_4
        try clear hcz51_5
        try clear hcz54_0
        try clear hcz54_1
        try clear hcz54_2
        try clear hcz54_3
        try clear hcz54_4
        try clear hcz54_5
        try clear hcz57_0
        try clear hcz57_1
        try clear hcz57_2
        try clear hcz57_3
        try clear hcz57_4
        try clear hcz57_5
        try clear hcz60_0
        try clear hcz60_1
        try clear hcz64_0
        try clear hcz64_1
        try clear hcz64_2
        try clear hcz64_3
        try clear hcz64_4
        try clear hcz64_5
        try clear hcz67_0
        try clear hcz67_1
        try clear hcz8_0
        try clear hcz8_1
        try clear hfz12_0
        try clear hfz12_1
        try clear hfz12_2
        try clear hfz12_3
        try clear hfz12_4
        try clear hfz12_5
        try clear hfz15_0
        try clear hfz15_1
        try clear hfz15_2
        try clear hfz15_3
        try clear hfz15_4
        try clear hfz15_5
        try clear hfz26_0
        try clear hfz26_1
        try clear hfz30_0
        try clear hfz30_1
        try clear hfz30_2
        try clear hfz30_3
        try clear hfz30_4
        try clear hfz30_5
        try clear hfz33_0
        try clear hfz33_1
        try clear hfz33_2
        try clear hfz33_3
        try clear hfz33_4
        try clear hfz33_5
        try clear hfz47_0
        try clear hfz47_1
        try clear hfz51_0
        try clear hfz51_1
        try clear hfz51_2
        try clear hfz51_3
        try clear hfz51_4
        try clear hfz51_5
        try clear hfz54_0
        try clear hfz54_1
        try clear hfz54_2
        try clear hfz54_3
        try clear hfz54_4
        try clear hfz54_5
        try clear hfz57_0
        try clear hfz57_1
        try clear hfz57_2
        try clear hfz57_3
        try clear hfz57_4
        try clear hfz57_5
        try clear hfz60_0
        try clear hfz60_1
        try clear hfz64_0
        try clear hfz64_1
        try clear hfz64_2
        try clear hfz64_3
        try clear hfz64_4
        try clear hfz64_5
        try clear hfz67_0
        try clear hfz67_1
        try clear hfz8_0
        try clear hfz8_1
        obtain ⟨x1001_1, HA, HK1, BK380, BK381, HI0, HK, HB⟩ := hrel
        cases gk with
        | zero => exact absurd HA.out (by simp [cardexref08_walk_token.l0])
        | succ k1 =>
          have H := HA.out
          clear HA
          simp only [cardexref08_walk_token.l0] at H
          by_cases c68 : x1001_1 < (t395.size : Int)
          · rw [if_pos c68] at H
            have c68b0 : decide (x1001_1 < (t395.size : Int)) = true := decide_eq_true c68
            clear c68
            by_cases c69 : 0 ≤ x1001_1
            · rw [if_pos c69] at H
              have c69b0 : decide (0 ≤ x1001_1) = true := decide_eq_true c69
              clear c69
              by_cases c71 : (bt t395 x1001_1) = 60
              · rw [if_pos c71] at H
                have c71b0 : ((bt t395 x1001_1) == 60) = true := beq_iff_eq.mpr c71
                have c71b1 : ((bt t395 x1001_1) != 60) = false := bne_eq_false_iff_eq.mpr c71
                clear c71
                by_cases c72 : 0 ≤ t396
                · rw [if_pos c72] at H
                  have c72b0 := eq_true c72
                  have c72b1 : decide (0 ≤ t396) = true := decide_eq_true c72
                  clear c72
                  by_cases c73 : t396 ≤ x1001_1
                  · rw [if_pos c73] at H
                    have c73b0 := eq_true c73
                    have c73b1 : decide (t396 ≤ x1001_1) = true := decide_eq_true c73
                    clear c73
                    by_cases c74 : x1001_1 ≤ (t395.size : Int)
                    · rw [if_pos c74] at H
                      have c74b0 := eq_true c74
                      have c74b1 : decide (x1001_1 ≤ (t395.size : Int)) = true := decide_eq_true c74
                      clear c74
                      obtain ⟨y408, hy408⟩ : ∃ y_ : ByteArray, y_ = (t395.extract (t396 : Int).toNat (x1001_1 : Int).toNat) := ⟨_, rfl⟩
                      replace H : ((cardexref01_Back.f k1 y408).bind fun bt409 => (some (3, s0_1, (⟨#[]⟩ : ByteArray), bt409.1, ([] : List (S45)), false, (bt409.2 == 0), t395, x1001_1))) = some (r1, r2, r3, r4, r5, r6, r7, r8, r9) := by first | (rw [hy408]; with_reducible exact H) | (have H2_ := (Option.bind_some _ _).symm.trans H; rw [hy408]; with_reducible exact H2_) | (have H2_ := (Option.bind_some _ _).symm.trans H; with_reducible exact H2_) | with_reducible exact H | (rw [hy408]; exact H) | exact H
                      have Ny408 := Aside0.mk hy408
                      clear hy408
                      have ey408 : (t395.extract (t396 : Int).toNat (x1001_1 : Int).toNat) = y408 := Ny408.out.symm
                      replace H := Option.bind_eq_some_iff.mp H
                      obtain ⟨⟨t409, t410⟩, A750, H⟩ := H
                      replace H : (some (3, s0_1, (⟨#[]⟩ : ByteArray), t409, ([] : List (S45)), false, (t410 == 0), t395, x1001_1)) = some (r1, r2, r3, r4, r5, r6, r7, r8, r9) := H
                      have A75 := Aside0.mk A750
                      clear A750
                      simp only [Option.some.injEq, Prod.mk.injEq] at H
                      obtain ⟨rfl, rfl, rfl, rfl, rfl, rfl, rfl, rfl, rfl⟩ := H
                      try go_wp2
                      have n0_ := Aside0.mk (blk_drew BK380.out)
                      have n1_ := Aside0.mk (blk_drew BK381.out)
                      have n2_ := Aside0.mk (IsS41.drew HI0.out)
                      have n3_ := Aside0.mk (keep_drew HK.out)
                      have n4_ := Aside0.mk (below_drew1 HB.out)
                      clear BK380
                      clear BK381
                      clear HI0
                      clear HK
                      clear HB
                      have BK380 := n0_
                      have BK381 := n1_
                      have HI0 := n2_
                      have HK := n3_
                      have HB := n4_
                      clear n0_ n1_ n2_ n3_ n4_
                      have p70 : 0 ≤ (x1001_1 : Int) := of_decide_eq_true zz9
                      have q70 : x1001_1 < (t395.size : Int) := of_decide_eq_true zz9
                      have hx70 := bt_at t395 x1001_1
                      replace p70 := eq_true p70
                      replace q70 := eq_true q70
                      refine start_ (n := 22) (S := fun w' => w'.cell? ⟨g, 0, none⟩ = some (.string t395) ∧ w'.cell? ⟨g, 1, none⟩ = some (.int .i64 x1001_1)) (ds := []) #[false, false, false, false, false, false, false, false, false, false, false, false, false, false, false, false, false, false, false, false, false, false] zz29 rfl rfl ⟨(blk_cell HI0.out.1 0).trans rfl, (blk_cell HI0.out.1 1).trans rfl⟩ (fun hHeld => ?_); refine with_tabW cardexref08_walk_token.tab9 cardexref08_walk_token.bits9 (fun HT_ HW_ => ?_)
                      generalize wr.drew = w76 at BK380 BK381 HI0 HK HB hHeld ⊢
                      refine pz 0 (some 40) ?_; refine pz 1 (some 41) ?_; refine pz 2 (some 42) ?_; refine pz 4 (some 44) ?_; refine pz 5 (some 45) ?_; refine pz 6 (some 46) ?_; refine t2 3 (some 43) ?_; refine t2 7 (some 47) ?_; refine pz 8 (some 48) ?_; refine pz 9 (some 49) ?_; refine pz 10 (some 50) ?_; refine pz 11 (some 51) ?_; refine pz 12 (some 52) ?_; refine pz 13 (some 53) ?_; refine pz 15 (some 55) ?_; refine pz 16 (some 56) ?_; refine pz 17 (some 57) ?_; refine t2 14 (some 54) ?_; refine t2 18 (some 58) ?_; refine t2 19 (some 59) ?_; refine pz 20 (some 60) ?_; refine pz 21 (some 61) ?_
                      refine done_ (done_of HT_.out zz29) ?_
                      try go_wp2
                      have n0_ := Aside0.mk (blk_drew BK380.out)
                      have n1_ := Aside0.mk (blk_drew BK381.out)
                      have n2_ := Aside0.mk (IsS41.drew HI0.out)
                      have n3_ := Aside0.mk (keep_drew HK.out)
                      have n4_ := Aside0.mk (below_drew1 HB.out)
                      clear BK380
                      clear BK381
                      clear HI0
                      clear HK
                      clear HB
                      have BK380 := n0_
                      have BK381 := n1_
                      have HI0 := n2_
                      have HK := n3_
                      have HB := n4_
                      clear n0_ n1_ n2_ n3_ n4_
                      refine start_ (n := 16) (S := fun w' => w'.cell? ⟨g, 0, none⟩ = some (.string t395) ∧ w'.cell? ⟨g, 1, none⟩ = some (.int .i64 x1001_1)) (ds := []) #[false, false, false, false, false, false, false, false, false, false, false, false, false, false, false, false] zz29 rfl rfl ⟨(blk_cell HI0.out.1 0).trans rfl, (blk_cell HI0.out.1 1).trans rfl⟩ (fun hHeld => ?_); refine with_tabW cardexref08_walk_token.tab11 cardexref08_walk_token.bits11 (fun HT_ HW_ => ?_)
                      generalize w76.drew = w77 at BK380 BK381 HI0 HK HB hHeld ⊢
                      refine pz 0 (some 70) ?_; refine pz 1 (some 71) ?_; refine pz 2 (some 72) ?_; refine pz 4 (some 74) ?_; refine pz 5 (some 75) ?_; refine pz 6 (some 76) ?_; refine pz 7 (some 77) ?_; refine t2 3 (some 73) ?_; refine t2 8 (some 78) ?_; refine pz 9 (some 79) ?_
                      refine one_ (i := 10) (N := some 80) #[true, true, true, true, true, true, true, true, true, true, true, false, false, false, false, false] rfl rfl (one_of HT_.out zz29) (by decide) (fun K hK => ?_)
                      refine goes_ Tryz.func28 zz29 rfl #[.string y408] (by rfl) rfl rfl zz1 ?_
                      with_reducible refine (cardexref01_Back.calls k1 y408 t409 t410 _ A75.out).mono ?_
                      rintro e w78 ⟨rfl, hb⟩
                      refine ⟨_, rfl, ?_⟩
                      have n0_ := Aside0.mk (blk_below (g := gb380) (o := .cells #[.int .i64 0, .int .i64 0, .string (⟨#[]⟩ : ByteArray), .string (⟨#[]⟩ : ByteArray), .slice none 0 0, .bool false] 30 (0, 0)) zz30 hb)
                      have n1_ := Aside0.mk (blk_below (g := gb381) (o := .cells #[.int .i64 0, .int .i64 s0_1, .string (⟨#[]⟩ : ByteArray), .string (⟨#[]⟩ : ByteArray), .slice none 0 0, .bool false] 30 (0, 0)) zz60 hb)
                      have n2_ := Aside0.mk (IsS41.below zz13 hb)
                      have n3_ := Aside0.mk (KeepBut.trans zz16 (KeepBut.of_below hb g none) (.inl rfl))
                      have n4_ := Aside0.mk (below_step zz14 hb)
                      clear BK380
                      clear BK381
                      clear HI0
                      clear HK
                      clear HB
                      have BK380 := n0_
                      have BK381 := n1_
                      have HI0 := n2_
                      have HK := n3_
                      have HB := n4_
                      clear n0_ n1_ n2_ n3_ n4_
                      (try clear hb)
                      (try clear hb2)
                      (try clear hk)
                      (try clear hi)
                      refine hK.out _ _ ⟨(blk_cell HI0.out.1 0).trans rfl, (blk_cell HI0.out.1 1).trans rfl⟩ (fun hHeld => ?_)
                      clear hK K
                      refine norm_ (a' := ?_) ?_ ?_
                      rotate_left
                      · show Act.put _ (some 80) _ = _
                        simp only [Act.put, List.setIfInBounds_toArray, List.set_cons_zero, List.set_cons_succ, i64_w, i32_w]
                        rfl
                      refine pz 11 (some 69) ?_; refine pz 12 (some 81) ?_; refine pz 13 (some 82) ?_; refine pz 14 (some 6) ?_; refine pz 15 (some 7) ?_
                      refine done_ (done_of HT_.out zz29) ?_
                      have hnb79 := NB381_380.out
                      have hnc79 := NB380_381.out
                      have hnb80 := NB381_0.out
                      have hnc80 := NB0_381.out
                      have hcz81_0 : w78.cell? ⟨gb381, 0, none⟩ = some (.int .i64 0) := (blk_cell BK381.out 0).trans rfl
                      have hcz81_1 : w78.cell? ⟨gb381, 1, none⟩ = some (.int .i64 s0_1) := (blk_cell BK381.out 1).trans rfl
                      have hcz81_2 : w78.cell? ⟨gb381, 2, none⟩ = some (.string (⟨#[]⟩ : ByteArray)) := (blk_cell BK381.out 2).trans rfl
                      have hcz81_3 : w78.cell? ⟨gb381, 3, none⟩ = some (.string (⟨#[]⟩ : ByteArray)) := (blk_cell BK381.out 3).trans rfl
                      have hcz81_4 : w78.cell? ⟨gb381, 4, none⟩ = some (.slice none 0 0) := (blk_cell BK381.out 4).trans rfl
                      have hcz81_5 : w78.cell? ⟨gb381, 5, none⟩ = some (.bool false) := (blk_cell BK381.out 5).trans rfl
                      have hfz81_0 := blk_frozen BK381.out 0
                      have hfz81_1 := blk_frozen BK381.out 1
                      have hfz81_2 := blk_frozen BK381.out 2
                      have hfz81_3 := blk_frozen BK381.out 3
                      have hfz81_4 := blk_frozen BK381.out 4
                      have hfz81_5 := blk_frozen BK381.out 5
                      have hnb82 := NB380_0.out
                      have hnc82 := NB0_380.out
                      have hcz83_0 : w78.cell? ⟨gb380, 0, none⟩ = some (.int .i64 0) := (blk_cell BK380.out 0).trans rfl
                      have hcz83_1 : w78.cell? ⟨gb380, 1, none⟩ = some (.int .i64 0) := (blk_cell BK380.out 1).trans rfl
                      have hcz83_2 : w78.cell? ⟨gb380, 2, none⟩ = some (.string (⟨#[]⟩ : ByteArray)) := (blk_cell BK380.out 2).trans rfl
                      have hcz83_3 : w78.cell? ⟨gb380, 3, none⟩ = some (.string (⟨#[]⟩ : ByteArray)) := (blk_cell BK380.out 3).trans rfl
                      have hcz83_4 : w78.cell? ⟨gb380, 4, none⟩ = some (.slice none 0 0) := (blk_cell BK380.out 4).trans rfl
                      have hcz83_5 : w78.cell? ⟨gb380, 5, none⟩ = some (.bool false) := (blk_cell BK380.out 5).trans rfl
                      have hfz83_0 := blk_frozen BK380.out 0
                      have hfz83_1 := blk_frozen BK380.out 1
                      have hfz83_2 := blk_frozen BK380.out 2
                      have hfz83_3 := blk_frozen BK380.out 3
                      have hfz83_4 := blk_frozen BK380.out 4
                      have hfz83_5 := blk_frozen BK380.out 5
                      try go_wp2
                      refine bodyPost_ret (results_ct rfl _ _ gb380 30 #[.int .i64 3, .int .i64 s0_1, .string (⟨#[]⟩ : ByteArray), .string t409, .slice none 0 0, .bool false] (0, 0) _ rfl (by (with_reducible repeat (first | refine blk_drewN ?_ _ | refine blk_drew ?_ | refine blk_alloc ?_ _)); refine blk_put (cs := #[.int .i64 3, .int .i64 s0_1, .string (⟨#[]⟩ : ByteArray), .string t409, .slice none 0 0, .bool false]) ?_ 5 _ rfl; (with_reducible repeat (first | refine blk_drewN ?_ _ | refine blk_drew ?_ | refine blk_alloc ?_ _)); refine blk_put (cs := #[.int .i64 3, .int .i64 s0_1, .string (⟨#[]⟩ : ByteArray), .string t409, .slice none 0 0, .bool false]) ?_ 4 _ rfl; (with_reducible repeat (first | refine blk_drewN ?_ _ | refine blk_drew ?_ | refine blk_alloc ?_ _)); refine blk_put (cs := #[.int .i64 3, .int .i64 s0_1, .string (⟨#[]⟩ : ByteArray), .string (⟨#[]⟩ : ByteArray), .slice none 0 0, .bool false]) ?_ 3 _ rfl; (with_reducible repeat (first | refine blk_drewN ?_ _ | refine blk_drew ?_ | refine blk_alloc ?_ _)); refine blk_put (cs := #[.int .i64 3, .int .i64 s0_1, .string (⟨#[]⟩ : ByteArray), .string (⟨#[]⟩ : ByteArray), .slice none 0 0, .bool false]) ?_ 2 _ rfl; (with_reducible repeat (first | refine blk_drewN ?_ _ | refine blk_drew ?_ | refine blk_alloc ?_ _)); refine blk_put (cs := #[.int .i64 3, .int .i64 0, .string (⟨#[]⟩ : ByteArray), .string (⟨#[]⟩ : ByteArray), .slice none 0 0, .bool false]) ?_ 1 _ rfl; (with_reducible repeat (first | refine blk_drewN ?_ _ | refine blk_drew ?_ | refine blk_alloc ?_ _)); refine blk_put (cs := #[.int .i64 0, .int .i64 0, .string (⟨#[]⟩ : ByteArray), .string (⟨#[]⟩ : ByteArray), .slice none 0 0, .bool false]) ?_ 0 _ rfl; (with_reducible repeat (first | refine blk_drewN ?_ _ | refine blk_drew ?_ | refine blk_alloc ?_ _)); refine blk_far ?_ NB380_381.out _; (with_reducible repeat (first | refine blk_drewN ?_ _ | refine blk_drew ?_ | refine blk_alloc ?_ _)); refine blk_far ?_ NB380_381.out _; (with_reducible repeat (first | refine blk_drewN ?_ _ | refine blk_drew ?_ | refine blk_alloc ?_ _)); exact BK380.out) Tryz.underlying30 rfl zz29) rfl ?_
                      exact ⟨_, zz4, zz40, zz13, zz14, zz16⟩
                    · rw [if_neg c74] at H
                      exact absurd H (by simp)
                  · rw [if_neg c73] at H
                    exact absurd H (by simp)
                · rw [if_neg c72] at H
                  exact absurd H (by simp)
              · rw [if_neg c71] at H
                have c71b0 : ((bt t395 x1001_1) == 60) = false := beq_eq_false_iff_ne.mpr c71
                have c71b1 : ((bt t395 x1001_1) != 60) = true := bne_iff_ne.mpr c71
                have H' := Aside0.mk H
                clear H
                try go_wp2
                have n0_ := Aside0.mk (blk_drew BK380.out)
                have n1_ := Aside0.mk (blk_drew BK381.out)
                have n2_ := Aside0.mk (IsS41.drew HI0.out)
                have n3_ := Aside0.mk (keep_drew HK.out)
                have n4_ := Aside0.mk (below_drew1 HB.out)
                clear BK380
                clear BK381
                clear HI0
                clear HK
                clear HB
                have BK380 := n0_
                have BK381 := n1_
                have HI0 := n2_
                have HK := n3_
                have HB := n4_
                clear n0_ n1_ n2_ n3_ n4_
                have p70 : 0 ≤ (x1001_1 : Int) := of_decide_eq_true zz9
                have q70 : x1001_1 < (t395.size : Int) := of_decide_eq_true zz9
                have hx70 := bt_at t395 x1001_1
                replace p70 := eq_true p70
                replace q70 := eq_true q70
                refine start_ (n := 22) (S := fun w' => w'.cell? ⟨g, 0, none⟩ = some (.string t395) ∧ w'.cell? ⟨g, 1, none⟩ = some (.int .i64 x1001_1)) (ds := []) #[false, false, false, false, false, false, false, false, false, false, false, false, false, false, false, false, false, false, false, false, false, false] zz29 rfl rfl ⟨(blk_cell HI0.out.1 0).trans rfl, (blk_cell HI0.out.1 1).trans rfl⟩ (fun hHeld => ?_); refine with_tabW cardexref08_walk_token.tab9 cardexref08_walk_token.bits9 (fun HT_ HW_ => ?_)
                generalize wr.drew = w84 at BK380 BK381 HI0 HK HB hHeld ⊢
                refine pz 0 (some 40) ?_; refine pz 1 (some 41) ?_; refine pz 2 (some 42) ?_; refine pz 4 (some 44) ?_; refine pz 5 (some 45) ?_; refine pz 6 (some 46) ?_; refine t2 3 (some 43) ?_; refine t2 7 (some 47) ?_; refine pz 8 (some 48) ?_; refine pz 9 (some 49) ?_; refine pz 10 (some 50) ?_; refine pz 11 (some 51) ?_; refine pz 12 (some 52) ?_; refine pz 13 (some 53) ?_; refine pz 15 (some 55) ?_; refine pz 16 (some 56) ?_; refine pz 17 (some 57) ?_; refine t2 14 (some 54) ?_; refine t2 18 (some 58) ?_; refine t2 19 (some 59) ?_; refine pz 20 (some 60) ?_; refine pz 21 (some 61) ?_
                refine done_ (done_of HT_.out zz29) ?_
                obtain ⟨HGz85, hgz85⟩ := HI0.out
                have hcz85_0 := cellS41_0 HGz85
                have hcz85_1 := cellS41_1 HGz85
                have hfz85_0 := blk_frozen HGz85 0
                have hfz85_1 := blk_frozen HGz85 1
                clear HGz85 hgz85
                try go_wp2
                go_roundg k1
                case measure => have := HK1.out; omega
                case rel => exact ⟨(wrap64 (x1001_1 + 1)), H', ⟨by have := HK1.out; omega⟩, ⟨by (with_reducible repeat (first | refine blk_drewN ?_ _ | refine blk_drew ?_ | refine blk_alloc ?_ _)); refine blk_far ?_ NB380_0.out _; (with_reducible repeat (first | refine blk_drewN ?_ _ | refine blk_drew ?_ | refine blk_alloc ?_ _)); exact BK380.out⟩, ⟨by (with_reducible repeat (first | refine blk_drewN ?_ _ | refine blk_drew ?_ | refine blk_alloc ?_ _)); refine blk_far ?_ NB381_0.out _; (with_reducible repeat (first | refine blk_drewN ?_ _ | refine blk_drew ?_ | refine blk_alloc ?_ _)); exact BK381.out⟩, ⟨zz13⟩, ⟨zz16⟩, ⟨zz14⟩⟩
            · rw [if_neg c69] at H
              exact absurd H (by simp)
          · rw [if_neg c68] at H
            have c68b0 : decide (x1001_1 < (t395.size : Int)) = false := decide_eq_false c68
            clear c68
            by_cases c86 : 0 ≤ t396
            · rw [if_pos c86] at H
              have c86b0 := eq_true c86
              have c86b1 : decide (0 ≤ t396) = true := decide_eq_true c86
              clear c86
              by_cases c87 : t396 ≤ x1001_1
              · rw [if_pos c87] at H
                have c87b0 := eq_true c87
                have c87b1 : decide (t396 ≤ x1001_1) = true := decide_eq_true c87
                clear c87
                by_cases c88 : x1001_1 ≤ (t395.size : Int)
                · rw [if_pos c88] at H
                  have c88b0 := eq_true c88
                  have c88b1 : decide (x1001_1 ≤ (t395.size : Int)) = true := decide_eq_true c88
                  clear c88
                  obtain ⟨y411, hy411⟩ : ∃ y_ : ByteArray, y_ = (t395.extract (t396 : Int).toNat (x1001_1 : Int).toNat) := ⟨_, rfl⟩
                  replace H : ((cardexref01_Back.f k1 y411).bind fun bt412 => (some (3, s0_1, (⟨#[]⟩ : ByteArray), bt412.1, ([] : List (S45)), false, (bt412.2 == 0), t395, x1001_1))) = some (r1, r2, r3, r4, r5, r6, r7, r8, r9) := by first | (rw [hy411]; with_reducible exact H) | (have H2_ := (Option.bind_some _ _).symm.trans H; rw [hy411]; with_reducible exact H2_) | (have H2_ := (Option.bind_some _ _).symm.trans H; with_reducible exact H2_) | with_reducible exact H | (rw [hy411]; exact H) | exact H
                  have Ny411 := Aside0.mk hy411
                  clear hy411
                  have ey411 : (t395.extract (t396 : Int).toNat (x1001_1 : Int).toNat) = y411 := Ny411.out.symm
                  replace H := Option.bind_eq_some_iff.mp H
                  obtain ⟨⟨t412, t413⟩, A890, H⟩ := H
                  replace H : (some (3, s0_1, (⟨#[]⟩ : ByteArray), t412, ([] : List (S45)), false, (t413 == 0), t395, x1001_1)) = some (r1, r2, r3, r4, r5, r6, r7, r8, r9) := H
                  have A89 := Aside0.mk A890
                  clear A890
                  simp only [Option.some.injEq, Prod.mk.injEq] at H
                  obtain ⟨rfl, rfl, rfl, rfl, rfl, rfl, rfl, rfl, rfl⟩ := H
                  try go_wp2
                  have n0_ := Aside0.mk (blk_drew BK380.out)
                  have n1_ := Aside0.mk (blk_drew BK381.out)
                  have n2_ := Aside0.mk (IsS41.drew HI0.out)
                  have n3_ := Aside0.mk (keep_drew HK.out)
                  have n4_ := Aside0.mk (below_drew1 HB.out)
                  clear BK380
                  clear BK381
                  clear HI0
                  clear HK
                  clear HB
                  have BK380 := n0_
                  have BK381 := n1_
                  have HI0 := n2_
                  have HK := n3_
                  have HB := n4_
                  clear n0_ n1_ n2_ n3_ n4_
                  refine start_ (n := 22) (S := fun w' => w'.cell? ⟨g, 0, none⟩ = some (.string t395) ∧ w'.cell? ⟨g, 1, none⟩ = some (.int .i64 x1001_1)) (ds := []) #[false, false, false, false, false, false, false, false, false, false, false, false, false, false, false, false, false, false, false, false, false, false] zz29 rfl rfl ⟨(blk_cell HI0.out.1 0).trans rfl, (blk_cell HI0.out.1 1).trans rfl⟩ (fun hHeld => ?_); refine with_tabW cardexref08_walk_token.tab9 cardexref08_walk_token.bits9 (fun HT_ HW_ => ?_)
                  generalize wr.drew = w90 at BK380 BK381 HI0 HK HB hHeld ⊢
                  refine pz 0 (some 40) ?_; refine pz 1 (some 41) ?_; refine pz 2 (some 42) ?_; refine pz 4 (some 44) ?_; refine pz 5 (some 45) ?_; refine pz 6 (some 46) ?_; refine t2 3 (some 43) ?_; refine t2 7 (some 47) ?_; refine pz 8 (some 48) ?_; refine pz 9 (some 49) ?_; refine pz 10 (some 50) ?_; refine pu 11 (some 51) ?_; refine pu 12 (some 52) ?_; refine pu 13 (some 53) ?_; refine pu 14 (some 54) ?_; refine pu 15 (some 55) ?_; refine pu 16 (some 56) ?_; refine pu 17 (some 57) ?_; refine pu 18 (some 58) ?_; refine pu 19 (some 59) ?_; refine pu 20 (some 60) ?_; refine pz 21 (some 61) ?_
                  refine done_ (done_of HT_.out zz29) ?_
                  try go_wp2
                  have n0_ := Aside0.mk (blk_drew BK380.out)
                  have n1_ := Aside0.mk (blk_drew BK381.out)
                  have n2_ := Aside0.mk (IsS41.drew HI0.out)
                  have n3_ := Aside0.mk (keep_drew HK.out)
                  have n4_ := Aside0.mk (below_drew1 HB.out)
                  clear BK380
                  clear BK381
                  clear HI0
                  clear HK
                  clear HB
                  have BK380 := n0_
                  have BK381 := n1_
                  have HI0 := n2_
                  have HK := n3_
                  have HB := n4_
                  clear n0_ n1_ n2_ n3_ n4_
                  refine start_ (n := 16) (S := fun w' => w'.cell? ⟨g, 0, none⟩ = some (.string t395) ∧ w'.cell? ⟨g, 1, none⟩ = some (.int .i64 x1001_1)) (ds := []) #[false, false, false, false, false, false, false, false, false, false, false, false, false, false, false, false] zz29 rfl rfl ⟨(blk_cell HI0.out.1 0).trans rfl, (blk_cell HI0.out.1 1).trans rfl⟩ (fun hHeld => ?_); refine with_tabW cardexref08_walk_token.tab11 cardexref08_walk_token.bits11 (fun HT_ HW_ => ?_)
                  generalize w90.drew = w91 at BK380 BK381 HI0 HK HB hHeld ⊢
                  refine pz 0 (some 70) ?_; refine pz 1 (some 71) ?_; refine pz 2 (some 72) ?_; refine pz 4 (some 74) ?_; refine pz 5 (some 75) ?_; refine pz 6 (some 76) ?_; refine pz 7 (some 77) ?_; refine t2 3 (some 73) ?_; refine t2 8 (some 78) ?_; refine pz 9 (some 79) ?_
                  refine one_ (i := 10) (N := some 80) #[true, true, true, true, true, true, true, true, true, true, true, false, false, false, false, false] rfl rfl (one_of HT_.out zz29) (by decide) (fun K hK => ?_)
                  refine goes_ Tryz.func28 zz29 rfl #[.string y411] (by rfl) rfl rfl zz1 ?_
                  with_reducible refine (cardexref01_Back.calls k1 y411 t412 t413 _ A89.out).mono ?_
                  rintro e w92 ⟨rfl, hb⟩
                  refine ⟨_, rfl, ?_⟩
                  have n0_ := Aside0.mk (blk_below (g := gb380) (o := .cells #[.int .i64 0, .int .i64 0, .string (⟨#[]⟩ : ByteArray), .string (⟨#[]⟩ : ByteArray), .slice none 0 0, .bool false] 30 (0, 0)) zz30 hb)
                  have n1_ := Aside0.mk (blk_below (g := gb381) (o := .cells #[.int .i64 0, .int .i64 s0_1, .string (⟨#[]⟩ : ByteArray), .string (⟨#[]⟩ : ByteArray), .slice none 0 0, .bool false] 30 (0, 0)) zz60 hb)
                  have n2_ := Aside0.mk (IsS41.below zz13 hb)
                  have n3_ := Aside0.mk (KeepBut.trans zz16 (KeepBut.of_below hb g none) (.inl rfl))
                  have n4_ := Aside0.mk (below_step zz14 hb)
                  clear BK380
                  clear BK381
                  clear HI0
                  clear HK
                  clear HB
                  have BK380 := n0_
                  have BK381 := n1_
                  have HI0 := n2_
                  have HK := n3_
                  have HB := n4_
                  clear n0_ n1_ n2_ n3_ n4_
                  (try clear hb)
                  (try clear hb2)
                  (try clear hk)
                  (try clear hi)
                  refine hK.out _ _ ⟨(blk_cell HI0.out.1 0).trans rfl, (blk_cell HI0.out.1 1).trans rfl⟩ (fun hHeld => ?_)
                  clear hK K
                  refine norm_ (a' := ?_) ?_ ?_
                  rotate_left
                  · show Act.put _ (some 80) _ = _
                    simp only [Act.put, List.setIfInBounds_toArray, List.set_cons_zero, List.set_cons_succ, i64_w, i32_w]
                    rfl
                  refine pz 11 (some 69) ?_; refine pz 12 (some 81) ?_; refine pz 13 (some 82) ?_; refine pz 14 (some 6) ?_; refine pz 15 (some 7) ?_
                  refine done_ (done_of HT_.out zz29) ?_
                  have hnb93 := NB381_380.out
                  have hnc93 := NB380_381.out
                  have hnb94 := NB381_0.out
                  have hnc94 := NB0_381.out
                  have hcz95_0 : w92.cell? ⟨gb381, 0, none⟩ = some (.int .i64 0) := (blk_cell BK381.out 0).trans rfl
                  have hcz95_1 : w92.cell? ⟨gb381, 1, none⟩ = some (.int .i64 s0_1) := (blk_cell BK381.out 1).trans rfl
                  have hcz95_2 : w92.cell? ⟨gb381, 2, none⟩ = some (.string (⟨#[]⟩ : ByteArray)) := (blk_cell BK381.out 2).trans rfl
                  have hcz95_3 : w92.cell? ⟨gb381, 3, none⟩ = some (.string (⟨#[]⟩ : ByteArray)) := (blk_cell BK381.out 3).trans rfl
                  have hcz95_4 : w92.cell? ⟨gb381, 4, none⟩ = some (.slice none 0 0) := (blk_cell BK381.out 4).trans rfl
                  have hcz95_5 : w92.cell? ⟨gb381, 5, none⟩ = some (.bool false) := (blk_cell BK381.out 5).trans rfl
                  have hfz95_0 := blk_frozen BK381.out 0
                  have hfz95_1 := blk_frozen BK381.out 1
                  have hfz95_2 := blk_frozen BK381.out 2
                  have hfz95_3 := blk_frozen BK381.out 3
                  have hfz95_4 := blk_frozen BK381.out 4
                  have hfz95_5 := blk_frozen BK381.out 5
                  have hnb96 := NB380_0.out
                  have hnc96 := NB0_380.out
                  have hcz97_0 : w92.cell? ⟨gb380, 0, none⟩ = some (.int .i64 0) := (blk_cell BK380.out 0).trans rfl
                  have hcz97_1 : w92.cell? ⟨gb380, 1, none⟩ = some (.int .i64 0) := (blk_cell BK380.out 1).trans rfl
                  have hcz97_2 : w92.cell? ⟨gb380, 2, none⟩ = some (.string (⟨#[]⟩ : ByteArray)) := (blk_cell BK380.out 2).trans rfl
                  have hcz97_3 : w92.cell? ⟨gb380, 3, none⟩ = some (.string (⟨#[]⟩ : ByteArray)) := (blk_cell BK380.out 3).trans rfl
                  have hcz97_4 : w92.cell? ⟨gb380, 4, none⟩ = some (.slice none 0 0) := (blk_cell BK380.out 4).trans rfl
                  have hcz97_5 : w92.cell? ⟨gb380, 5, none⟩ = some (.bool false) := (blk_cell BK380.out 5).trans rfl
                  have hfz97_0 := blk_frozen BK380.out 0
                  have hfz97_1 := blk_frozen BK380.out 1
                  have hfz97_2 := blk_frozen BK380.out 2
                  have hfz97_3 := blk_frozen BK380.out 3
                  have hfz97_4 := blk_frozen BK380.out 4
                  have hfz97_5 := blk_frozen BK380.out 5
                  try go_wp2
                  refine bodyPost_ret (results_ct rfl _ _ gb380 30 #[.int .i64 3, .int .i64 s0_1, .string (⟨#[]⟩ : ByteArray), .string t412, .slice none 0 0, .bool false] (0, 0) _ rfl (by (with_reducible repeat (first | refine blk_drewN ?_ _ | refine blk_drew ?_ | refine blk_alloc ?_ _)); refine blk_put (cs := #[.int .i64 3, .int .i64 s0_1, .string (⟨#[]⟩ : ByteArray), .string t412, .slice none 0 0, .bool false]) ?_ 5 _ rfl; (with_reducible repeat (first | refine blk_drewN ?_ _ | refine blk_drew ?_ | refine blk_alloc ?_ _)); refine blk_put (cs := #[.int .i64 3, .int .i64 s0_1, .string (⟨#[]⟩ : ByteArray), .string t412, .slice none 0 0, .bool false]) ?_ 4 _ rfl; (with_reducible repeat (first | refine blk_drewN ?_ _ | refine blk_drew ?_ | refine blk_alloc ?_ _)); refine blk_put (cs := #[.int .i64 3, .int .i64 s0_1, .string (⟨#[]⟩ : ByteArray), .string (⟨#[]⟩ : ByteArray), .slice none 0 0, .bool false]) ?_ 3 _ rfl; (with_reducible repeat (first | refine blk_drewN ?_ _ | refine blk_drew ?_ | refine blk_alloc ?_ _)); refine blk_put (cs := #[.int .i64 3, .int .i64 s0_1, .string (⟨#[]⟩ : ByteArray), .string (⟨#[]⟩ : ByteArray), .slice none 0 0, .bool false]) ?_ 2 _ rfl; (with_reducible repeat (first | refine blk_drewN ?_ _ | refine blk_drew ?_ | refine blk_alloc ?_ _)); refine blk_put (cs := #[.int .i64 3, .int .i64 0, .string (⟨#[]⟩ : ByteArray), .string (⟨#[]⟩ : ByteArray), .slice none 0 0, .bool false]) ?_ 1 _ rfl; (with_reducible repeat (first | refine blk_drewN ?_ _ | refine blk_drew ?_ | refine blk_alloc ?_ _)); refine blk_put (cs := #[.int .i64 0, .int .i64 0, .string (⟨#[]⟩ : ByteArray), .string (⟨#[]⟩ : ByteArray), .slice none 0 0, .bool false]) ?_ 0 _ rfl; (with_reducible repeat (first | refine blk_drewN ?_ _ | refine blk_drew ?_ | refine blk_alloc ?_ _)); refine blk_far ?_ NB380_381.out _; (with_reducible repeat (first | refine blk_drewN ?_ _ | refine blk_drew ?_ | refine blk_alloc ?_ _)); refine blk_far ?_ NB380_381.out _; (with_reducible repeat (first | refine blk_drewN ?_ _ | refine blk_drew ?_ | refine blk_alloc ?_ _)); exact BK380.out) Tryz.underlying30 rfl zz29) rfl ?_
                  exact ⟨_, zz4, zz40, zz13, zz14, zz16⟩
                · rw [if_neg c88] at H
                  exact absurd H (by simp)
              · rw [if_neg c87] at H
                exact absurd H (by simp)
            · rw [if_neg c86] at H
              exact absurd H (by simp)
end Go.Proofs.YtjijbncheikagaaGreatDoor.Q
