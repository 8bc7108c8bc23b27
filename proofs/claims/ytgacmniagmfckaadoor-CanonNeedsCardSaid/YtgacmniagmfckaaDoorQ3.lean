-- Written by hookprint.py (wip/) of this session: the kit's print with hand-proved functions beside it. Not trusted: Lean checks it.
import Derived.Test.YtgacmniagmfckaaDoorQ0
import Derived.Test.YtgacmniagmfckaaDoorQ2
namespace Go.Proofs.YtgacmniagmfckaaDoor.Q
open List (setIfInBounds_toArray set_cons_zero set_cons_succ)
open Go.RowKit Go.Lib Go.Proofs.YtgacmniagmfckaaDoorX Go.Proofs.YtgacmniagmfckaaDoorW.PrintWords Go.Proofs.YtgacmniagmfckaaDoorW.PrintLast Go.Proofs.YtgacmniagmfckaaDoorW.PrintMore
set_option linter.unusedVariables false
set_option linter.unusedSimpArgs false
def slices_Index_byte_byte.l0 : Nat → List Int → Int → Int → Int → Option (Int)
 | 0, _, _, _, _ => none
 | k + 1, x0, x1, x7, x8 => if x8 < x7 then (if 0 ≤ x8 then (if x8 < (x0.length : Int) then (if x1 = (rd x0 x8) then (some x8) else (slices_Index_byte_byte.l0 k x0 x1 x7 (wrap64 (x8 + 1)))) else (none)) else (none)) else (some (-1))
def slices_Index_byte_byte.f (k : Nat) (l0 : List Int) (a1 : Int) : Option (Int) := slices_Index_byte_byte.l0 k l0 a1 (l0.length : Int) 0
set_option maxHeartbeats 8000000 in
set_option maxRecDepth 100000 in
theorem slices_Index_byte_byte.calls (k : Nat) (A0 : Option Addr) (c0 : Nat) (l0 : List Int) (a1 : Int) (r : Int) (w : World) (hr0 : Kd.C (Kd.int .u8) w A0 l0.length l0) (hc0 : l0.length ≤ c0) (h : slices_Index_byte_byte.f k l0 a1 = some r) :
  Calls Tryd.prog 45 #[.slice A0 l0.length c0, .int .u8 a1] w fun e w' => e = .returned (.int .i64 r) ∧ Drawn0 w w' := by
 have HR0 := Aside0.mk hr0
 have HC0 := Aside0.mk hc0
 clear hr0 hc0
 have H : (slices_Index_byte_byte.l0 k l0 a1 (l0.length : Int) 0) = some r := h
 clear h
 have H' := Aside0.mk H
 clear H
 go_enter Tryd.func45, Tryd.ntmps45
 go_wp2
 go_loopg [8] k (fun kq v8 w' => ∃ (x8_1 : Int), v8 = .int .i64 x8_1 ∧ Aside0 (slices_Index_byte_byte.l0 kq l0 a1 (l0.length : Int) x8_1 = some r) ∧ Aside0 (kq ≤ k) ∧ Drawn0 w w')
 case atStart => exact ⟨(0), (by first | rfl | (simp; done) | exact congrArg Value.bool (nemp _) | exact congrArg Value.bool (emp _) | (simp [*]; done)), H', ⟨Nat.le_refl _⟩, by repeat (first | exact Drawn0.refl _ | apply Drawn0.step)⟩
 case round =>
  clear H'
  try clear p2
  obtain ⟨x8_1, rfl, HA, HK1, ⟨m1, rfl⟩⟩ := hrel
  cases gk with
  | zero => exact absurd HA.out (by simp [slices_Index_byte_byte.l0])
  | succ k1 =>
   have H := HA.out
   clear HA
   simp only [slices_Index_byte_byte.l0] at H
   by_cases c3 : x8_1 < (l0.length : Int)
   ·rw [if_pos c3] at H
    have c3b0 : decide (x8_1 < (l0.length : Int)) = true := decide_eq_true c3
    clear c3
    by_cases c4 : 0 ≤ x8_1
    ·rw [if_pos c4] at H
     have c4b0 : decide (0 ≤ x8_1) = true := decide_eq_true c4
     clear c4
     by_cases c5 : x8_1 < (l0.length : Int)
     ·rw [if_pos c5] at H
      have c5b0 : decide (x8_1 < (l0.length : Int)) = true := decide_eq_true c5
      clear c5
      by_cases c6 : a1 = (rd l0 x8_1)
      ·rw [if_pos c6] at H
       have c6b0 : (a1 == (rd l0 x8_1)) = true := beq_iff_eq.mpr c6
       have c6b1 : (a1 != (rd l0 x8_1)) = false := bne_eq_false_iff_eq.mpr c6
       clear c6
       obtain rfl := Option.some.inj H
       have p143 : 0 ≤ (x8_1 : Int) := of_decide_eq_true (by first | (with_reducible assumption) | assumption)
       have q143 : x8_1 < (l0.length : Int) := of_decide_eq_true (by first | (with_reducible assumption) | assumption)
       obtain ⟨ad143, e143, hx143_0⟩ := Kd.at_int HR0.out x8_1 p143 q143
       cases e143
       replace p143 := eq_true p143
       replace q143 := eq_true q143
       go_wp2
       go_ret
       exact ⟨by first | rfl | (simp; done) | exact congrArg Value.bool (nemp _) | exact congrArg Value.bool (emp _) | (simp [*]; done), by repeat (first | exact Drawn0.refl _ | apply Drawn0.step)⟩
      rw [if_neg c6] at H
      have c6b0 : (a1 == (rd l0 x8_1)) = false := beq_eq_false_iff_ne.mpr c6
      have c6b1 : (a1 != (rd l0 x8_1)) = true := bne_iff_ne.mpr c6
      have H' := Aside0.mk H
      clear H
      have p143 : 0 ≤ (x8_1 : Int) := of_decide_eq_true (by first | (with_reducible assumption) | assumption)
      have q143 : x8_1 < (l0.length : Int) := of_decide_eq_true (by first | (with_reducible assumption) | assumption)
      obtain ⟨ad143, e143, hx143_0⟩ := Kd.at_int HR0.out x8_1 p143 q143
      cases e143
      replace p143 := eq_true p143
      replace q143 := eq_true q143
      go_wp2
      go_roundg k1
      case measure => have := HK1.out; omega
      case rel => exact ⟨(wrap64 (x8_1 + 1)), (by first | rfl | (simp; done) | exact congrArg Value.bool (nemp _) | exact congrArg Value.bool (emp _) | (simp [*]; done)), H', ⟨by have := HK1.out; omega⟩, by repeat (first | exact Drawn0.refl _ | apply Drawn0.step)⟩
     rw [if_neg c5] at H
     exact absurd H (by simp)
    rw [if_neg c4] at H
    exact absurd H (by simp)
   rw [if_neg c3] at H
   have c3b0 : decide (x8_1 < (l0.length : Int)) = false := decide_eq_false c3
   clear c3
   obtain rfl := Option.some.inj H
   go_wp2
   go_ret
   exact ⟨by first | rfl | (simp; done) | exact congrArg Value.bool (nemp _) | exact congrArg Value.bool (emp _) | (simp [*]; done), by repeat (first | exact Drawn0.refl _ | apply Drawn0.step)⟩
def escape_table_byte_string_of.f (k : Nat) (l0_0 : List Int) (l0_1 : List ByteArray) (a1 : Int) : Option (ByteArray × Bool) := (slices_Index_byte_byte.f k l0_0 a1).bind fun t145 => ((escape_at_string.f l0_1 t145).bind fun bt146 => (some (bt146.1, bt146.2)))
set_option maxHeartbeats 8000000 in
set_option maxRecDepth 100000 in
theorem escape_table_byte_string_of.calls (k : Nat) (A0_0 : Option Addr) (c0_0 : Nat) (l0_0 : List Int) (A0_1 : Option Addr) (c0_1 : Nat) (l0_1 : List ByteArray) (a1 : Int) (r1 : ByteArray) (r2 : Bool) (w : World) (hr0_0 : Kd.C (Kd.int .u8) w A0_0 l0_0.length l0_0) (hc0_0 : l0_0.length ≤ c0_0) (hr0_1 : Kd.C Kd.string w A0_1 l0_1.length l0_1) (hc0_1 : l0_1.length ≤ c0_1) (h : escape_table_byte_string_of.f k l0_0 l0_1 a1 = some (r1, r2)) :
  Calls Tryd.prog 38 #[.agg #[.slice A0_0 l0_0.length c0_0, .slice A0_1 l0_1.length c0_1], .int .u8 a1] w fun e w' => e = .returned (.tuple #[.string r1, .bool r2]) ∧ Below w.heap.size w w' := by
 have hu69 := Tryd.underlying69
 have HR0_0 := Aside0.mk hr0_0
 have HC0_0 := Aside0.mk hc0_0
 clear hr0_0 hc0_0
 have HR0_1 := Aside0.mk hr0_1
 have HC0_1 := Aside0.mk hc0_1
 clear hr0_1 hc0_1
 have HB := Aside0.mk (Below.refl w.heap.size w)
 have H : ((slices_Index_byte_byte.f k l0_0 a1).bind fun t145 => ((escape_at_string.f l0_1 t145).bind fun bt146 => (some (bt146.1, bt146.2)))) = some (r1, r2) := h
 clear h
 replace H := Option.bind_eq_some_iff.mp H
 obtain ⟨t145, A30, H⟩ := H
 replace H : ((escape_at_string.f l0_1 t145).bind fun bt146 => (some (bt146.1, bt146.2))) = some (r1, r2) := H
 have A3 := Aside0.mk A30
 clear A30
 replace H := Option.bind_eq_some_iff.mp H
 obtain ⟨⟨t146, t147⟩, A40, H⟩ := H
 replace H : (some (t146, t147)) = some (r1, r2) := H
 have A4 := Aside0.mk A40
 clear A40
 simp only [Option.some.injEq, Prod.mk.injEq] at H
 obtain ⟨rfl, rfl⟩ := H
 go_enter Tryd.func38, Tryd.ntmps38
 go_wp2_with (first | ((with_reducible refine gate_dst (N := 2) rfl ?_); refine box_event ?hg (N := 2) ?hd (cs := #[.slice A0_0 l0_0.length c0_0, .slice A0_1 l0_1.length c0_1]) (t := 69) ?hr ?_; (case hd => rfl); (case hg => rfl); (case hr => first | (go_simp; done) | (go_simp; rfl)); intro gb144 hg w5 hbox hb; have n0_ := Aside0.mk (below_step (by repeat (first | (with_reducible first | exact HB.out | apply below_alloc | apply pw_below_drewN | apply below_drew1) | exact HB.out)) hb); have n1_ := Aside0.mk (hbox); have n2_ := Aside0.mk ((by rw [hg]; exact (below_size (by repeat (first | (with_reducible first | exact HB.out | apply below_alloc | apply pw_below_drewN | apply below_drew1) | exact HB.out))) : w.heap.size ≤ gb144)); have n3_ := Aside0.mk ((by rw [hg]; exact (below_size (by repeat (first | (with_reducible first | exact HB.out | apply below_alloc | apply pw_below_drewN | apply below_drew1) | exact HB.out))) : w.heap.size ≤ gb144)); clear HB; have HB := n0_; have BK144 := n1_; have GW144 := n2_; have GE144 := n3_; clear n0_ n1_ n2_ n3_; clear hb hbox hg; have hcz6_0 : w5.cell? ⟨gb144, 0, none⟩ = some (.slice A0_0 l0_0.length c0_0) := (blk_cell BK144.out 0).trans rfl; have hcz6_1 : w5.cell? ⟨gb144, 1, none⟩ = some (.slice A0_1 l0_1.length c0_1) := (blk_cell BK144.out 1).trans rfl; have hfz6_0 := blk_frozen BK144.out 0; have hfz6_1 := blk_frozen BK144.out 1) | (go_at_call 45; (with_reducible refine (slices_Index_byte_byte.calls k _ _ l0_0 a1 t145 _ ?side1 ?side2 A3.out).mono ?_); (case side1 => repeat (first | exact (Kd.C_below HR0_0.out HB.out) | (with_reducible refine Kd.C_alloc ?_ _) | (with_reducible refine Kd.C_drewN ?_ _) | (with_reducible refine Kd.C_drew ?_))); (case side2 => exact HC0_0.out); rintro e w' ⟨rfl, ⟨nd, rfl⟩⟩; (try first | exact ⟨rfl, _, World.drewN_drewN _ _ _⟩ | exact ⟨rfl, _, Eq.trans (World.drewN_drewN _ _ _) (congrArg (World.drewN _) (Nat.add_assoc _ _ _))⟩)) | (go_at_call 44; (with_reducible refine (escape_at_string.calls _ _ l0_1 t145 t146 t147 _ ?side1 ?side2 A4.out).mono ?_); (case side1 => repeat (first | exact (Kd.C_below HR0_1.out (by repeat (first | (with_reducible first | exact HB.out | apply below_alloc | apply pw_below_drewN | apply below_drew1 | refine below_set ?_ GE144.out) | exact HB.out))) | (with_reducible refine Kd.C_alloc ?_ _) | (with_reducible refine Kd.C_drewN ?_ _) | (with_reducible refine Kd.C_drew ?_))); (case side2 => exact HC0_1.out); rintro e w' ⟨rfl, ⟨nd, rfl⟩⟩; (try first | exact ⟨rfl, _, World.drewN_drewN _ _ _⟩ | exact ⟨rfl, _, Eq.trans (World.drewN_drewN _ _ _) (congrArg (World.drewN _) (Nat.add_assoc _ _ _))⟩)))
 repeat (go_quiet (first | ((with_reducible refine gate_dst (N := 2) rfl ?_); refine box_event ?hg (N := 2) ?hd (cs := #[.slice A0_0 l0_0.length c0_0, .slice A0_1 l0_1.length c0_1]) (t := 69) ?hr ?_; (case hd => rfl); (case hg => rfl); (case hr => first | (go_simp; done) | (go_simp; rfl)); intro gb144 hg w5 hbox hb; have n0_ := Aside0.mk (below_step (by repeat (first | (with_reducible first | exact HB.out | apply below_alloc | apply pw_below_drewN | apply below_drew1) | exact HB.out)) hb); have n1_ := Aside0.mk (hbox); have n2_ := Aside0.mk ((by rw [hg]; exact (below_size (by repeat (first | (with_reducible first | exact HB.out | apply below_alloc | apply pw_below_drewN | apply below_drew1) | exact HB.out))) : w.heap.size ≤ gb144)); have n3_ := Aside0.mk ((by rw [hg]; exact (below_size (by repeat (first | (with_reducible first | exact HB.out | apply below_alloc | apply pw_below_drewN | apply below_drew1) | exact HB.out))) : w.heap.size ≤ gb144)); clear HB; have HB := n0_; have BK144 := n1_; have GW144 := n2_; have GE144 := n3_; clear n0_ n1_ n2_ n3_; clear hb hbox hg; have hcz6_0 : w5.cell? ⟨gb144, 0, none⟩ = some (.slice A0_0 l0_0.length c0_0) := (blk_cell BK144.out 0).trans rfl; have hcz6_1 : w5.cell? ⟨gb144, 1, none⟩ = some (.slice A0_1 l0_1.length c0_1) := (blk_cell BK144.out 1).trans rfl; have hfz6_0 := blk_frozen BK144.out 0; have hfz6_1 := blk_frozen BK144.out 1) | (go_at_call 45; (with_reducible refine (slices_Index_byte_byte.calls k _ _ l0_0 a1 t145 _ ?side1 ?side2 A3.out).mono ?_); (case side1 => repeat (first | exact (Kd.C_below HR0_0.out HB.out) | (with_reducible refine Kd.C_alloc ?_ _) | (with_reducible refine Kd.C_drewN ?_ _) | (with_reducible refine Kd.C_drew ?_))); (case side2 => exact HC0_0.out); rintro e w' ⟨rfl, ⟨nd, rfl⟩⟩; (try first | exact ⟨rfl, _, World.drewN_drewN _ _ _⟩ | exact ⟨rfl, _, Eq.trans (World.drewN_drewN _ _ _) (congrArg (World.drewN _) (Nat.add_assoc _ _ _))⟩)) | (go_at_call 44; (with_reducible refine (escape_at_string.calls _ _ l0_1 t145 t146 t147 _ ?side1 ?side2 A4.out).mono ?_); (case side1 => repeat (first | exact (Kd.C_below HR0_1.out (by repeat (first | (with_reducible first | exact HB.out | apply below_alloc | apply pw_below_drewN | apply below_drew1 | refine below_set ?_ GE144.out) | exact HB.out))) | (with_reducible refine Kd.C_alloc ?_ _) | (with_reducible refine Kd.C_drewN ?_ _) | (with_reducible refine Kd.C_drew ?_))); (case side2 => exact HC0_1.out); rintro e w' ⟨rfl, ⟨nd, rfl⟩⟩; (try first | exact ⟨rfl, _, World.drewN_drewN _ _ _⟩ | exact ⟨rfl, _, Eq.trans (World.drewN_drewN _ _ _) (congrArg (World.drewN _) (Nat.add_assoc _ _ _))⟩))); try go_wp2_with (first | ((with_reducible refine gate_dst (N := 2) rfl ?_); refine box_event ?hg (N := 2) ?hd (cs := #[.slice A0_0 l0_0.length c0_0, .slice A0_1 l0_1.length c0_1]) (t := 69) ?hr ?_; (case hd => rfl); (case hg => rfl); (case hr => first | (go_simp; done) | (go_simp; rfl)); intro gb144 hg w5 hbox hb; have n0_ := Aside0.mk (below_step (by repeat (first | (with_reducible first | exact HB.out | apply below_alloc | apply pw_below_drewN | apply below_drew1) | exact HB.out)) hb); have n1_ := Aside0.mk (hbox); have n2_ := Aside0.mk ((by rw [hg]; exact (below_size (by repeat (first | (with_reducible first | exact HB.out | apply below_alloc | apply pw_below_drewN | apply below_drew1) | exact HB.out))) : w.heap.size ≤ gb144)); have n3_ := Aside0.mk ((by rw [hg]; exact (below_size (by repeat (first | (with_reducible first | exact HB.out | apply below_alloc | apply pw_below_drewN | apply below_drew1) | exact HB.out))) : w.heap.size ≤ gb144)); clear HB; have HB := n0_; have BK144 := n1_; have GW144 := n2_; have GE144 := n3_; clear n0_ n1_ n2_ n3_; clear hb hbox hg; have hcz6_0 : w5.cell? ⟨gb144, 0, none⟩ = some (.slice A0_0 l0_0.length c0_0) := (blk_cell BK144.out 0).trans rfl; have hcz6_1 : w5.cell? ⟨gb144, 1, none⟩ = some (.slice A0_1 l0_1.length c0_1) := (blk_cell BK144.out 1).trans rfl; have hfz6_0 := blk_frozen BK144.out 0; have hfz6_1 := blk_frozen BK144.out 1) | (go_at_call 45; (with_reducible refine (slices_Index_byte_byte.calls k _ _ l0_0 a1 t145 _ ?side1 ?side2 A3.out).mono ?_); (case side1 => repeat (first | exact (Kd.C_below HR0_0.out HB.out) | (with_reducible refine Kd.C_alloc ?_ _) | (with_reducible refine Kd.C_drewN ?_ _) | (with_reducible refine Kd.C_drew ?_))); (case side2 => exact HC0_0.out); rintro e w' ⟨rfl, ⟨nd, rfl⟩⟩; (try first | exact ⟨rfl, _, World.drewN_drewN _ _ _⟩ | exact ⟨rfl, _, Eq.trans (World.drewN_drewN _ _ _) (congrArg (World.drewN _) (Nat.add_assoc _ _ _))⟩)) | (go_at_call 44; (with_reducible refine (escape_at_string.calls _ _ l0_1 t145 t146 t147 _ ?side1 ?side2 A4.out).mono ?_); (case side1 => repeat (first | exact (Kd.C_below HR0_1.out (by repeat (first | (with_reducible first | exact HB.out | apply below_alloc | apply pw_below_drewN | apply below_drew1 | refine below_set ?_ GE144.out) | exact HB.out))) | (with_reducible refine Kd.C_alloc ?_ _) | (with_reducible refine Kd.C_drewN ?_ _) | (with_reducible refine Kd.C_drew ?_))); (case side2 => exact HC0_1.out); rintro e w' ⟨rfl, ⟨nd, rfl⟩⟩; (try first | exact ⟨rfl, _, World.drewN_drewN _ _ _⟩ | exact ⟨rfl, _, Eq.trans (World.drewN_drewN _ _ _) (congrArg (World.drewN _) (Nat.add_assoc _ _ _))⟩))))
 go_ret2
 exact ⟨by first | rfl | (simp only [nemp]; rfl) | (simp [errW_none, errW_some] <;> rfl) | (simp [*, errW_none, errW_some] <;> rfl), by repeat (first | (with_reducible first | exact HB.out | apply below_alloc | apply pw_below_drewN | apply below_drew1 | refine below_set ?_ GE144.out) | exact HB.out)⟩
def signB (b : UInt8) : Option (List UInt8) :=
 if b = 38 then some [38, 97, 109, 112, 59] else if b = 60 then some [38, 108, 116, 59] else if b = 62 then some [38, 103, 116, 59] else if b = 34 then some [38, 113, 117, 111, 116, 59]
 else if b = 39 then some [38, 97, 112, 111, 115, 59] else if b = 9 then some [38, 35, 57, 59] else if b = 10 then some [38, 35, 49, 48, 59] else if b = 13 then some [38, 35, 49, 51, 59] else none
def escB (b : UInt8) : List UInt8 := (signB b).getD [b]
def escL (l : List UInt8) : List UInt8 := l.flatMap escB
theorem escB_len (b : UInt8) : (escB b).length ≤ 6 := by
 unfold escB signB
 repeat' split
 all_goals simp
theorem escL_len : ∀ l : List UInt8, (escL l).length ≤ 6 * l.length
 | [] => by simp [escL]
 | b :: t => by
  have h1 := escB_len b
  have h2 := escL_len t
  unfold escL at h2 ⊢
  rw [List.flatMap_cons, List.length_append, List.length_cons]
  omega
def signK : List Int := [38, 60, 62, 34, 39, 9, 10, 13]
def signV : List ByteArray := [(⟨#[38, 97, 109, 112, 59]⟩ : ByteArray), (⟨#[38, 108, 116, 59]⟩ : ByteArray), (⟨#[38, 103, 116, 59]⟩ : ByteArray), (⟨#[38, 113, 117, 111, 116, 59]⟩ : ByteArray), (⟨#[38, 97, 112, 111, 115, 59]⟩ : ByteArray), (⟨#[38, 35, 57, 59]⟩ : ByteArray), (⟨#[38, 35, 49, 48, 59]⟩ : ByteArray), (⟨#[38, 35, 49, 51, 59]⟩ : ByteArray)]
theorem signs_eq : escape_signs.f = some (signK, signV) := rfl
def signR (b : UInt8) : ByteArray × Bool := match signB b with | some x => (⟨x.toArray⟩, true) | none => (⟨#[]⟩, false)
theorem of_all : ∀ n : Fin 256, escape_table_byte_string_of.f 9 signK signV (n.val : Int) = some (signR (UInt8.ofNat n.val)) := by decide +kernel
theorem of_sign (b : UInt8) : escape_table_byte_string_of.f 9 signK signV (b.toNat : Int) = some (signR b) := by
 have := of_all ⟨b.toNat, UInt8.toNat_lt b⟩
 simpa using this
def escape_Text.f (a0 : ByteArray) : Option ByteArray := if a0.size ≤ 1000000000000 then some ⟨(escL a0.data.toList).toArray⟩ else none
set_option maxHeartbeats 4000000 in
set_option maxRecDepth 100000 in
theorem escape_Text.calls (a0 : ByteArray) (r : ByteArray) (w : World) (h : escape_Text.f a0 = some r) :
  Calls Tryd.prog 26 #[.string a0] w fun e w' => e = .returned (.string r) ∧ Below w.heap.size w w' := by
 unfold escape_Text.f at h
 split at h
 ·rename_i hs
  obtain rfl := Option.some.inj h
  have HS := Aside0.mk hs
  clear h hs
  have hu := Tryd.underlying69
  go_enter Tryd.func26, Tryd.ntmps26
  go_wp2_with (go_at_call 37; (with_reducible refine (escape_signs.calls signK signV _ signs_eq).mono ?_))
  rintro e w2 ⟨v0, v1, rfl, ho0, ho1, hb⟩
  obtain ⟨A0, c0, rfl, hl0, hC0⟩ := Kd.R_reads ho0
  obtain ⟨A1, c1, rfl, hl1, hC1⟩ := Kd.R_reads ho1
  go_wp2
  have HB := Aside0.mk (show Below w.heap.size w (w2.alloc (.cells #[.slice A0 signK.length c0, .slice A1 signV.length c1] 69)) from below_alloc (below_a hb) _)
  have hbk : (w2.alloc (.cells #[.slice A0 signK.length c0, .slice A1 signV.length c1] 69)).heap[w.heap.size]? = some (.cells #[.pointer none, .slice none 0 0] 44 (0, 0)) := blk_alloc (blk_below (blk_new w _) hb) _
  have hsz : (w.alloc (.cells #[.pointer none, .slice none 0 0] 44)).heap.size = w.heap.size + 1 := World.size_alloc _ _
  have hsz2 := hb.size
  have HBl := Aside0.mk (show IsBld 44 5 (w2.heap.size + 1) w.heap.size (Lib.byteCells (escL [])) (w2.alloc (.cells #[.slice A0 signK.length c0, .slice A1 signV.length c1] 69)) from .inl ⟨.slice none 0 0, hbk, World.ownsRow_nil _ _ _ _, by simp [Value.ownBlock]⟩)
  obtain ⟨w3, hw3⟩ : ∃ w3, w2.alloc (.cells #[.slice A0 signK.length c0, .slice A1 signV.length c1] 69) = w3 := ⟨_, rfl⟩
  have hs3 : w3.heap.size = w2.heap.size + 1 := by rw [← hw3]; exact World.size_alloc _ _
  have HK := Aside0.mk (show ∀ W, But (w2.heap.size + 1) w.heap.size w3 W → (Kd.C (Kd.int .u8) W A0 signK.length signK ∧ Kd.C Kd.string W A1 signV.length signV) ∧ W.cell? ⟨w2.heap.size, 0, none⟩ = some (.slice A0 signK.length c0) ∧ W.cell? ⟨w2.heap.size, 1, none⟩ = some (.slice A1 signV.length c1) from by
   intro W hW
   have hk : KeepBut w3 W w.heap.size none := ⟨hW.size, fun k hk hne _ => hW.block k (by omega) hne⟩
   have hc : W.heap[w2.heap.size]? = some (.cells #[.slice A0 signK.length c0, .slice A1 signV.length c1] 69 (0, 0)) := by
    rw [hW.block w2.heap.size (by omega) (by omega), ← hw3]; exact blk_new w2 _
   subst hw3
   exact ⟨⟨Kd.C_foot_own (Kd.R_bound (Kd.R_alloc ho0 _)) (fun k hk => by have := hk.2.1; omega) W hk, Kd.C_foot_own (Kd.R_bound (Kd.R_alloc ho1 _)) (fun k hk => by have := hk.2.1; omega) W hk⟩, (blk_cell hc 0).trans rfl, (blk_cell hc 1).trans rfl⟩)
  have HL := Aside0.mk (And.intro hl0 hl1)
  have HS2 := Aside0.mk (show w.heap.size < w2.heap.size by omega)
  rw [hw3] at HB HBl
  have HS3 := Aside0.mk hs3
  rw [hw3]
  clear hw3 hbk hb ho0 ho1 hC0 hC1 hl0 hl1 hsz hsz2 hs3
  have HT := Aside0.mk (But.refl (w2.heap.size + 1) w.heap.size w3)
  go_loopg [11] (a0.size + 1) (fun gk v11 wr => ∃ x : Int, 0 ≤ x ∧ x ≤ (a0.size : Int) ∧ v11 = .int .i64 x ∧ (a0.size : Int) < gk + x ∧ Aside0 (IsBld 44 5 (w2.heap.size + 1) w.heap.size (Lib.byteCells (escL (a0.data.toList.take x.toNat))) wr) ∧ Aside0 (But (w2.heap.size + 1) w.heap.size w3 wr))
  case atStart => exact ⟨0, Int.le_refl _, by omega, rfl, by omega, HBl, HT⟩
  case round =>
   clear HBl HT
   obtain ⟨x, hx0, hx1, rfl, hk, HBl, HT⟩ := hrel
   by_cases hlt : x < (a0.size : Int)
   ·obtain ⟨k', rfl⟩ : ∃ k', gk = k' + 1 := ⟨gk - 1, by omega⟩
    obtain ⟨⟨hC0, hC1⟩, hc0, hc1⟩ := HK.out wr HT.out
    have hxn : x.toNat < a0.size := by omega
    have hln : x.toNat < a0.data.toList.length := by rw [Array.length_toList]; exact hxn
    obtain ⟨by1, hby⟩ : ∃ y, a0.data.toList[x.toNat] = y := ⟨_, rfl⟩
    have hbt : bt a0 x = (by1.toNat : Int) := by
     unfold bt
     rw [dif_pos hxn, ← hby]; rfl
    have hx4 := bt_at a0 x
    rw [hbt] at hx4
    have htk : escL (a0.data.toList.take (x.toNat + 1)) = escL (a0.data.toList.take x.toNat) ++ escB by1 := by
     rw [List.take_succ_eq_append_getElem hln, hby]
     unfold escL
     rw [List.flatMap_append]; simp
    have hlen := escL_len (a0.data.toList.take x.toNat)
    have hlt2 := List.length_take_le x.toNat a0.data.toList
    have HTK := Aside0.mk htk
    have HLEN := Aside0.mk (show (Lib.byteCells (escL (a0.data.toList.take x.toNat))).length ≤ 6000000000000 by rw [Lib.byteCells_length]; have := HS.out; omega)
    have hw : wrap64 (x + 1) = x + 1 := by have := HS.out; unfold wrap64; omega
    have hx0b : decide (0 ≤ x) = true := decide_eq_true hx0
    have hltb : decide (x < (a0.size : Int)) = true := decide_eq_true hlt
    have HX := Aside0.mk (And.intro hx0 (And.intro hx1 hlt))
    have HKX := Aside0.mk hk
    have p4 := eq_true hx0
    have q4 := eq_true hlt
    have HC := Aside0.mk (And.intro hC0 hC1)
    have hof := of_sign by1
    have hes : escB by1 = (signR by1).1.data.toList ∨ ((signR by1).2 = false ∧ escB by1 = [by1]) := by
     unfold escB signR
     cases signB by1 with
     | some t => left; simp
     | none => right; exact ⟨rfl, rfl⟩
    have hsl : (signR by1).1.size ≤ 6 := by
     have := escB_len by1
     unfold escB at this
     unfold signR
     cases hq : signB by1 with
     | some t => rw [hq] at this; simpa [ByteArray.size] using this
     | none => simp [ByteArray.size]
    have htf : (signR by1).2 = true → escB by1 = (signR by1).1.data.toList := fun h2 => hes.elim id (fun h3 => by rw [h3.1] at h2; cases h2)
    have hff : (signR by1).2 = false → escB by1 = [by1] := fun h2 => by
     unfold signR at h2
     unfold escB
     cases hq : signB by1 with
     | some t => rw [hq] at h2; cases h2
     | none => rfl
    have hone : a0.extract x.toNat (x + 1).toNat = ⟨#[by1]⟩ := by
     apply ByteArray.ext
     apply Array.ext'
     rw [show (x + 1).toNat = x.toNat + 1 by omega]
     simp [List.extract_eq_take_drop]
     rw [List.take_one, List.head?_drop, List.getElem?_eq_getElem hln, hby]; rfl
    obtain ⟨t1, is, hsr⟩ : ∃ t1 is, signR by1 = (t1, is) := ⟨_, _, rfl⟩
    rw [hsr] at hof hsl htf hff
    have HTF := Aside0.mk htf
    have HFF := Aside0.mk hff
    have HOF := Aside0.mk hof
    have HSL := Aside0.mk hsl
    have HONE := Aside0.mk hone
    clear htk hlen hlt2 hbt hby hln hxn hk hx0 hx1 hlt hC0 hC1 hes hsr htf hff hof hsl hone
    go_wp2_with fail
    refine start_ (n := 10) (S := fun w' => w'.cell? ⟨w2.heap.size, 0, none⟩ = some (.slice A0 signK.length c0) ∧ w'.cell? ⟨w2.heap.size, 1, none⟩ = some (.slice A1 signV.length c1)) (ds := [4]) #[false, false, false, false, false, false, false, false, false, false] (by kernel_rfl) rfl rfl ⟨hc0, hc1⟩ (fun hHeld => ?_)
    refine pure_ (i := 1) (N := some 16) (v := ?_) (a' := ?_) #[false, true, false, false, false, false, false, false, false, false] rfl rfl (by kernel_rfl) (fun _ _ _ h => h) (Or.inl ⟨by rfl, ?_⟩) ?_ ?_
    rotate_left
    ·intro w'
     go_simp
     with_reducible rfl
    rotate_left
    ·simp only [Act.put, setIfInBounds_toArray, set_cons_zero, set_cons_succ, i64_w, i32_w]
     rfl
    refine pure_ (i := 2) (N := some 17) (v := ?_) (a' := ?_) #[false, true, true, false, false, false, false, false, false, false] rfl rfl (by kernel_rfl) (fun _ _ _ h => h) (Or.inl ⟨by rfl, ?_⟩) ?_ ?_
    rotate_left
    ·intro w'
     go_simp
     with_reducible rfl
    rotate_left
    ·simp only [Act.put, setIfInBounds_toArray, set_cons_zero, set_cons_succ, i64_w, i32_w]
     rfl
    refine take_ (i := 0) (N := some 15) (v := ?_) (a' := ?_) #[true, true, true, false, false, false, false, false, false, false] rfl rfl (by kernel_rfl) (fun _ _ _ h => h) (Or.inl ⟨by rfl, ?_⟩) hHeld ?_ ?_
    rotate_left
    ·rintro w' ⟨s0, s1⟩
     go_simp
     with_reducible rfl
    rotate_left
    ·simp only [Act.put, setIfInBounds_toArray, set_cons_zero, set_cons_succ, i64_w, i32_w]
     rfl
    refine take_ (i := 3) (N := some 18) (v := ?_) (a' := ?_) #[true, true, true, true, false, false, false, false, false, false] rfl rfl (by kernel_rfl) (fun _ _ _ h => h) (Or.inl ⟨by rfl, ?_⟩) hHeld ?_ ?_
    rotate_left
    ·rintro w' ⟨s0, s1⟩
     go_simp
     with_reducible rfl
    rotate_left
    ·simp only [Act.put, setIfInBounds_toArray, set_cons_zero, set_cons_succ, i64_w, i32_w]
     rfl
    refine last_ (i := 4) (N := some 19) #[true, true, true, true, true, false, false, false, false, false] rfl rfl (by kernel_rfl) (by decide) (fun K hK => ?_)
    refine goes_ Tryd.func38 (by kernel_rfl) rfl #[.agg #[.slice A0 signK.length c0, .slice A1 signV.length c1], .int .u8 (by1.toNat : Int)] (by rfl) rfl rfl (by simp only [List.map_toArray, List.map_cons, List.map_nil]; rfl) ?_
    with_reducible refine (escape_table_byte_string_of.calls 9 A0 c0 signK A1 c1 signV (by1.toNat : Int) t1 is _ (Kd.C_drew HC.out.1) HL.out.1 (Kd.C_drew HC.out.2) HL.out.2 HOF.out).mono ?_
    rintro e w5 ⟨rfl, hb5⟩
    refine ⟨_, rfl, ?_⟩
    have H5 := Aside0.mk (show Below wr.heap.size wr w5 from ⟨hb5.os, hb5.tape, hb5.output, hb5.size, hb5.block⟩)
    refine hK.out _ _ ?_
    clear hK K
    refine norm_ (a' := ?_) ?_ ?_
    rotate_left
    ·show Act.put _ (some 19) _ = _
     simp only [Act.put, setIfInBounds_toArray, set_cons_zero, set_cons_succ, i64_w, i32_w]
     rfl
    refine pure_ (i := 5) (N := some 14) (v := ?_) (a' := ?_) #[true, true, true, true, true, true, false, false, false, false] rfl rfl (by kernel_rfl) (fun _ _ _ h => h) (Or.inl ⟨by rfl, ?_⟩) ?_ ?_
    rotate_left
    ·intro w'
     go_simp
     with_reducible rfl
    rotate_left
    ·simp only [Act.put, setIfInBounds_toArray, set_cons_zero, set_cons_succ, i64_w, i32_w]
     rfl
    refine pure_ (i := 6) (N := some 20) (v := ?_) (a' := ?_) #[true, true, true, true, true, true, true, false, false, false] rfl rfl (by kernel_rfl) (fun _ _ _ h => h) (Or.inl ⟨by rfl, ?_⟩) ?_ ?_
    rotate_left
    ·intro w'
     go_simp
     with_reducible rfl
    rotate_left
    ·simp only [Act.put, setIfInBounds_toArray, set_cons_zero, set_cons_succ, i64_w, i32_w]
     rfl
    refine pure_ (i := 7) (N := some 21) (v := ?_) (a' := ?_) #[true, true, true, true, true, true, true, true, false, false] rfl rfl (by kernel_rfl) (fun _ _ _ h => h) (Or.inl ⟨by rfl, ?_⟩) ?_ ?_
    rotate_left
    ·intro w'
     go_simp
     with_reducible rfl
    rotate_left
    ·simp only [Act.put, setIfInBounds_toArray, set_cons_zero, set_cons_succ, i64_w, i32_w]
     rfl
    refine pure_ (i := 8) (N := some 6) (v := ?_) (a' := ?_) #[true, true, true, true, true, true, true, true, true, false] rfl rfl (by kernel_rfl) (fun _ _ _ h => h) (Or.inl ⟨by rfl, ?_⟩) ?_ ?_
    rotate_left
    ·intro w'
     go_simp
     with_reducible rfl
    rotate_left
    ·simp only [Act.put, setIfInBounds_toArray, set_cons_zero, set_cons_succ, i64_w, i32_w]
     rfl
    refine pure_ (i := 9) (N := some 7) (v := ?_) (a' := ?_) #[true, true, true, true, true, true, true, true, true, true] rfl rfl (by kernel_rfl) (fun _ _ _ h => h) (Or.inl ⟨by rfl, ?_⟩) ?_ ?_
    rotate_left
    ·intro w'
     go_simp
     with_reducible rfl
    rotate_left
    ·simp only [Act.put, setIfInBounds_toArray, set_cons_zero, set_cons_succ, i64_w, i32_w]
     rfl
    refine done_ (by kernel_rfl) ?_
    clear hHeld hb5 hc0 hc1 HC
    have HT5 := Aside0.mk (HT.out.trans (But.of_below H5.out (by have := HT.out.size; have := HS3.out; omega)))
    have HB5 := Aside0.mk (HBl.out.below H5.out)
    have HSZ := Aside0.mk (show w2.heap.size + 1 ≤ w5.heap.size by have := HT5.out.size; have := HS3.out; omega)
    clear HT HBl H5
    cases is with
    | true =>
     go_wp2_with (go_at_call 13; (with_reducible refine (strings_Builder_WriteString.hof _ _ _ t1 _ HB5.out (by have := HLEN.out; have := HSL.out; omega) HSZ.out).mono ?_))
     (first | rintro e w6 rfl hb6 ht6 | rintro e w6 ⟨rfl, hb6, ht6⟩)
     have HB6 := Aside0.mk hb6
     have HT6 := Aside0.mk (HT5.out.trans ht6)
     clear hb6 ht6
     go_wp2
     go_roundg k'
     case measure => have := HX.out; have := HKX.out; omega
     case rel => exact ⟨x + 1, by have := HX.out; omega, by have := HX.out; omega, by first | rfl | (rw [hw]), by have := HKX.out; omega, ⟨by have h6 := HB6.out; rw [show (x + 1).toNat = x.toNat + 1 by have := HX.out; omega, HTK.out, HTF.out (by first | trivial | rfl), Lib.byteCells_append]; exact h6⟩, HT6⟩
    | false =>
     have hsl : ∀ W : World, (Instr.slice 9 (.string a0) (some (.int .i64 x)) (some (.int .i64 (x + 1))) none).run Tryd.prog W = .ok (.string ⟨#[by1]⟩) W := fun W => by
      rw [run_slice_string W 9 a0 .i64 .i64 x (x + 1) Tryd.underlying9 HX.out.1 (by omega) (by have := HX.out.2.2; omega), HONE.out]
     go_wp2_with (go_at_call 13; (with_reducible refine (strings_Builder_WriteString.hof _ _ _ ⟨#[by1]⟩ _ HB5.out (by have := HLEN.out; have : (⟨#[by1]⟩ : ByteArray).size = 1 := rfl; omega) HSZ.out).mono ?_))
     (first | rintro e w6 rfl hb6 ht6 | rintro e w6 ⟨rfl, hb6, ht6⟩)
     have HB6 := Aside0.mk hb6
     have HT6 := Aside0.mk (HT5.out.trans ht6)
     clear hb6 ht6
     go_wp2
     go_roundg k'
     case measure => have := HX.out; have := HKX.out; omega
     case rel => exact ⟨x + 1, by have := HX.out; omega, by have := HX.out; omega, by first | rfl | (rw [hw]), by have := HKX.out; omega, ⟨by have h6 := HB6.out; rw [show (x + 1).toNat = x.toNat + 1 by have := HX.out; omega, HTK.out, HFF.out (by first | trivial | rfl), Lib.byteCells_append]; exact h6⟩, HT6⟩
   have : x = a0.size := by omega
   subst this
   have hfull : a0.data.toList.take ((a0.size : Int)).toNat = a0.data.toList := by
    rw [Int.toNat_natCast]
    exact List.take_of_length_le (by rw [Array.length_toList]; exact Nat.le_refl _)
   rw [hfull] at HBl
   have HZ := Aside0.mk (show w.heap.size ≤ wr.heap.size by have := HT.out.size; have := HS3.out; have := HS2.out; omega)
   clear hfull
   go_wp2_with (go_at_call 15; (with_reducible refine (Tryd.Builder_String_any _ _ _ _ (HBl.out.builder (by have := HS2.out; omega)) HZ.out).mono ?_))
   (first | rintro e w6 rfl hb6 | rintro e w6 ⟨rfl, hb6⟩)
   have HB6 := Aside0.mk hb6
   clear hb6
   go_wp2
   go_ret
   refine ⟨rfl, ?_⟩
   have hbw := HT.out.below HB.out (Nat.le_refl _) (by have := HS2.out; omega)
   exact below_weaken hbw (Nat.le_refl _) HB6.out
 cases h
def FileAt (w : World) (B g : Nat) (p S : Value) (bs : List Value) : Prop := B ≤ g ∧ ∃ v, w.heap[g]? = some (.cells #[p, v, S] 46 (0, 0)) ∧ w.ownsRow B 5 1 v bs.length bs ∧ v.ownBlock ≠ some g
def FileB (w : World) (B g : Nat) (S : Value) (bs : List Value) : Prop := FileAt w B g (.pointer none) S bs ∨ FileAt w B g (.pointer (some ⟨g, 0, none⟩)) S bs
theorem FileB.at {w : World} {B g : Nat} {S : Value} {bs : List Value} (h : FileB w B g S bs) : ∃ p, FileAt w B g p S bs := h.elim (fun x => ⟨_, x⟩) (fun x => ⟨_, x⟩)
theorem FileB.cell2 {w : World} {B g : Nat} {S : Value} {bs : List Value} (h : FileB w B g S bs) : w.cell? ⟨g, 2, none⟩ = some S := by
 obtain ⟨p, _, v, hb, _⟩ := h.at
 exact (blk_cell hb 2).trans rfl
theorem FileAt.below {w w' : World} {B g : Nat} {p S : Value} {bs : List Value} (h : FileAt w B g p S bs) (hb : Below w.heap.size w w') : FileAt w' B g p S bs := by
 obtain ⟨h1, v, h2, h3, h4⟩ := h
 exact ⟨h1, v, blk_below h2 hb, own_move h3 (fun k hk => hb.block k (h3.lt k hk).2), h4⟩
theorem FileB.below {w w' : World} {B g : Nat} {S : Value} {bs : List Value} (h : FileB w B g S bs) (hb : Below w.heap.size w w') : FileB w' B g S bs := h.elim (fun x => .inl (x.below hb)) (fun x => .inr (x.below hb))
theorem FileAt.used {w : World} {B g : Nat} {p S : Value} {bs : List Value} (h : FileAt w B g p S bs) (q : Value) : FileAt (w.setCell ⟨g, 0, none⟩ q) B g q S bs := by
 obtain ⟨h1, v, h2, h3, h4⟩ := h
 exact ⟨h1, v, blk_put h2 0 q rfl, own_move h3 (fun k hk => Below.heap_setCell _ _ _ _ (fun e => h4 (by rw [hk, e]))), h4⟩
theorem FileAt.put {w : World} {B g : Nat} {p v v' S : Value} {bs : List Value} (h1 : B ≤ g) (h2 : w.heap[g]? = some (.cells #[p, v, S] 46 (0, 0))) (h3 : w.ownsRow B 5 1 v' bs.length bs) : FileAt (w.setCell ⟨g, 1, none⟩ v') B g p S bs := by
 have hne : v'.ownBlock ≠ some g := fun e => by
  obtain ⟨cells, hc⟩ := own_typed h3 g e
  exact blk_ne h2 hc (by decide) rfl
 exact ⟨h1, v', blk_put h2 1 v' rfl, own_move h3 (fun k hk => Below.heap_setCell _ _ _ _ (fun e => hne (by rw [hk, e]))), hne⟩
def FKp (B g : Nat) (w w' : World) : Prop := Below B w w' ∧ Lib.OthersKept 5 (some g) w w'
theorem FKp.refl (B g : Nat) (w : World) : FKp B g w w := ⟨Below.refl B w, Lib.OthersKept.refl _ _ w⟩
theorem FKp.trans {B g : Nat} {a b c : World} (h : FKp B g a b) (k : FKp B g b c) : FKp B g a c := ⟨h.1.trans k.1, h.2.trans k.2⟩
theorem FKp.size {B g : Nat} {w w' : World} (h : FKp B g w w') : w.heap.size ≤ w'.heap.size := h.1.size
theorem FKp.of {B g : Nat} {w w' : World} (h : Below w.heap.size w w') (hB : B ≤ w.heap.size) : FKp B g w w' := ⟨h.mono hB, (Lib.OthersKept.refl _ _ w).below h⟩
theorem FKp.then_ {B g : Nat} {a w w' : World} (h : FKp B g a w) (hb : Below w.heap.size w w') (hB : B ≤ w.heap.size) : FKp B g a w' := h.trans (FKp.of hb hB)
theorem FKp.drew {B g : Nat} {a w : World} (h : FKp B g a w) : FKp B g a w.drew := ⟨h.1.drew, h.2.drew⟩
theorem FKp.blk {B g k : Nat} {w w' : World} {cs : Array Value} {t : TypeId} (h : FKp B g w w') (hb : w.heap[k]? = some (.cells cs t (0, 0))) (hk : k ≠ g) (ht : t ≠ 5) : w'.heap[k]? = some (.cells cs t (0, 0)) :=
 h.2 k _ hb (fun e => hk (Option.some.inj e)) (fun c fz e => ht (by injection e))
set_option maxHeartbeats 2000000 in
set_option maxRecDepth 100000 in
theorem copy_used (b : Nat) (w : World) (h0 : w.cell? ⟨b, 0, none⟩ = some (.pointer (some ⟨b, 0, none⟩))) :
  Calls Tryd.prog 22 #[.pointer (some ⟨b, 0, none⟩)] w fun e w' => e = .returned (.tuple #[]) ∧ w' = w := by
 have hu := Tryd.underlying44
 obtain ⟨j, hj⟩ : ∃ j, Tryd.prog.info? 44 = some j := Option.isSome_iff_exists.1 (by kernel_rfl)
 go_enter Tryd.func22, Tryd.ntmps22
 go_wp2
 rw [Lib.run_neq_ptr_same w _ Tryd.underlying42 hj]
 go_wp2
 go_end0
 exact ⟨rfl, rfl⟩
set_option maxHeartbeats 2000000 in
set_option maxRecDepth 100000 in
theorem copy_fresh (b : Nat) (w : World) (h0 : w.cell? ⟨b, 0, none⟩ = some (.pointer none)) (hsh : w.shape? b = some (46, 3)) (hfz : w.frozen? ⟨b, 0, none⟩ = false) :
  Calls Tryd.prog 22 #[.pointer (some ⟨b, 0, none⟩)] w fun e w' => e = .returned (.tuple #[]) ∧ w' = w.setCell ⟨b, 0, none⟩ (.pointer (some ⟨b, 0, none⟩)) := by
 have hu := Tryd.underlying44
 obtain ⟨j, hj, hjs⟩ : ∃ j, Tryd.prog.info? 44 = some j ∧ j.size ≠ 0 := by
  have h : (Tryd.prog.info? 44).map (·.size) = some 2 := by kernel_rfl
  obtain ⟨j, hj, e⟩ := Option.map_eq_some_iff.1 h
  exact ⟨j, hj, by rw [e]; decide⟩
 go_enter Tryd.func22, Tryd.ntmps22
 go_wp2
 rw [Lib.run_to_unsafe w ⟨b, 0, none⟩ Tryd.underlying42 Tryd.underlying66 hj hjs hsh (Nat.zero_lt_succ 2)]
 simp only [Result.andThen]
 rw [Oper.upon_value]
 go_wp2
 rw [run_callFunc_extern Tryd.func36 (by kernel_rfl) (by kernel_rfl) (by kernel_rfl) (e := Extern.AbiNoEscape.same) (by kernel_rfl)]
 rw [Lib.run_noEscape]
 simp only [Result.andThen]
 rw [Oper.upon_value]
 go_wp2
 rw [Lib.run_from_unsafe w ⟨b, 0, none⟩ Tryd.underlying66 Tryd.underlying42 hj hsh (by kernel_rfl)]
 simp only [Result.andThen]
 rw [Oper.upon_value]
 go_wp2
 go_end0
 exact ⟨rfl, rfl⟩
theorem fcopy (B g : Nat) (S : Value) (bs : List Value) (w : World) (h : FileB w B g S bs) :
  Calls Tryd.prog 22 #[.pointer (some ⟨g, 0, none⟩)] w fun e w' => e = .returned (.tuple #[]) ∧ FileAt w' B g (.pointer (some ⟨g, 0, none⟩)) S bs ∧ FKp B g w w' := by
 rcases h with h | h
 ·obtain ⟨h1, v, h2, _⟩ := id h
  refine (copy_fresh g w ((blk_cell h2 0).trans rfl) (by simp [World.shape?, h2]) (blk_frozen h2 0)).mono ?_
  rintro e w' ⟨rfl, rfl⟩
  exact ⟨rfl, h.used _, (Below.refl B w).setCell (p := ⟨g, 0, none⟩) h1 _, (Lib.OthersKept.refl _ _ w).setCell ⟨g, 0, none⟩ rfl _⟩
 obtain ⟨h1, v, h2, _⟩ := id h
 refine (copy_used g w ((blk_cell h2 0).trans rfl)).mono ?_
 rintro e w' ⟨rfl, rfl⟩
 exact ⟨rfl, h, FKp.refl B _ _⟩
set_option maxHeartbeats 2000000 in
set_option maxRecDepth 100000 in
theorem fwrite (B g : Nat) (S : Value) (bs : List Value) (s : ByteArray) (w : World) (h : FileB w B g S bs) (hlen : bs.length + s.size ≤ 140737488355328) (hBw : B ≤ w.heap.size) :
  Calls Tryd.prog 13 #[.pointer (some ⟨g, 0, none⟩), .string s] w fun e w' => e = .returned (.tuple #[.int .i64 s.size, .nilIface]) ∧ FileB w' B g S (bs ++ Lib.strCells s) ∧ FKp B g w w' := by
 obtain ⟨i0, hi, hz0, hz1, hz2⟩ := info_parts info5
 have hu := Tryd.underlying44
 go_enter Tryd.func13, Tryd.ntmps13
 go_wp2_with (first | (go_at_call 22; refine (fcopy B g S bs _ h).mono ?_; rintro e w1 ⟨rfl, h1, hb1⟩; obtain ⟨hB, v, hbk, hown, hne⟩ := h1; have c0 : w1.cell? ⟨g, 0, none⟩ = some (.pointer (some ⟨g, 0, none⟩)) := (blk_cell hbk 0).trans rfl; have c1 : w1.cell? ⟨g, 1, none⟩ = some v := (blk_cell hbk 1).trans rfl) | (at_builtin; refine Lib.wpList_append_own_string _ rfl _ _ 34 9 rfl B 5 i0 Tryd.underlying34 Tryd.underlying9 hi hz0 hz1 hz2 _ _ _ rfl hown s rfl ?c3 ?c4 ?c5 ?_))
 case c3 => unfold maxLen; omega
 case c4 => omega
 case c5 => have := hb1.size; omega
 intro v' w2 hown' hgrow _
 have hlt : g < w1.heap.size := blk_lt hbk
 have hb2 : w2.heap[g]? = some (.cells #[.pointer (some ⟨g, 0, none⟩), v, S] 46 (0, 0)) := by
  rw [hgrow.block g hlt (fun e => hne e.symm)]
  exact hbk
 have d0 : w2.cell? ⟨g, 0, none⟩ = some (.pointer (some ⟨g, 0, none⟩)) := (blk_cell hb2 0).trans rfl
 have d1 : w2.cell? ⟨g, 1, none⟩ = some v := (blk_cell hb2 1).trans rfl
 have f1 : w2.frozen? ⟨g, 1, none⟩ = false := blk_frozen hb2 1
 obtain ⟨ao, n', cap, rfl⟩ : ∃ ao n' cap, v' = .slice ao n' cap := by
  rcases hown'.2 with ⟨hv, _⟩ | ⟨g, cap, cur, hv, _⟩
  ·exact ⟨_, _, _, hv⟩
  exact ⟨_, _, _, hv⟩
 go_wp2
 go_ret2
 refine ⟨rfl, ?_, ?_⟩
 ·exact .inr (FileAt.put hB hb2 (bs := bs ++ Lib.strCells s) (by simpa [Lib.strCells_length] using hown'))
 exact ⟨(hb1.1.grown hgrow (by have := hb1.size; omega) (fun k hk => (hown.lt k hk).1)).setCell (p := ⟨g, 1, none⟩) hB _, (hb1.2.grown hgrow (Lib.ownsRow_kind hown)).setCell ⟨g, 1, none⟩ rfl _⟩
set_option maxHeartbeats 2000000 in
set_option maxRecDepth 100000 in
theorem fstring (B g : Nat) (S : Value) (l : List UInt8) (w : World) (h : FileB w B g S (Lib.byteCells l)) (h0 : l ≠ []) :
  Calls Tryd.prog 15 #[.pointer (some ⟨g, 0, none⟩)] w fun e w' => e = .returned (.string ⟨l.toArray⟩) ∧ Below B w w' := by
 obtain ⟨p, hB, v, hbk, hown, hne⟩ := h.at
 have hl0 : l.length ≠ 0 := by simpa using h0
 rw [Lib.byteCells_length] at hown
 obtain ⟨gr, cap, cur, rfl, hbg, hg, hnc, hcm, hcs, htake⟩ : ∃ gr cap cur, v = .slice (some ⟨gr, 0, none⟩) l.length cap ∧ B ≤ gr ∧ w.heap[gr]? = some (.cells cur 5 (0, 0)) ∧ l.length ≤ cap ∧ cap ≤ maxLen ∧ cur.size = cap * 1 ∧ cur.toList.take (l.length * 1) = Lib.byteCells l := by
  rcases hown.2 with ⟨_, hz⟩ | ⟨gr, cap, cur, hv, r⟩
  ·exact absurd hz hl0
  exact ⟨gr, cap, cur, hv, r⟩
 have c1 : w.drew.cell? ⟨g, 1, none⟩ = some (.slice (some ⟨gr, 0, none⟩) l.length cap) := (blk_cell (blk_drew hbk) 1).trans rfl
 have hSD : (Builtin.unsafeSliceData_ #[34] 63 #[.slice (some ⟨gr, 0, none⟩) l.length cap]).run Tryd.prog w.drew = .ok (.pointer (some ⟨gr, 0, none⟩)) w.drew :=
  Lib.run_unsafeSliceData_row _ _ _ _ _ _ (by omega)
 have hUS : (Builtin.unsafeString_ #[63, 3] 9 #[.pointer (some ⟨gr, 0, none⟩), .int .i64 l.length]).run Tryd.prog w.drew = .ok (.string ⟨l.toArray⟩) (w.drew.freeze ⟨gr, 0, none⟩ l.length) := by
  refine Lib.run_unsafeString_row w.drew 63 3 9 5 Tryd.underlying63 (by kernel_rfl) gr cur.size (by have hg' : w.drew.heap[gr]? = some (.cells cur 5 (0, 0)) := hg; simp [World.shape?, hg']) l h0 (by omega) (by unfold maxLen at hcm; omega) ?_
  intro j x hx
  have := hown.cells (g := gr) rfl j (.int .u8 x.toNat) (by simp [Lib.byteCells, hx])
  exact this
 have hu := Tryd.underlying44
 have mixed : Tryd.prog.follows Departure.mixedOrders = true := by kernel_rfl
 go_enter Tryd.func15, Tryd.ntmps15
 go_wp2
 go_region_o
 all_goals (go_wp2; go_ret; exact ⟨rfl, Lib.below_freeze (Below.drew (Below.refl B w)) (p := ⟨gr, 0, none⟩) hbg _⟩)
def attrT (n t : ByteArray) : ByteArray := ((((⟨#[32]⟩ : ByteArray) ++ n) ++ (⟨#[61, 39]⟩ : ByteArray)) ++ t) ++ (⟨#[39]⟩ : ByteArray)
theorem attrT_size (n t : ByteArray) : (attrT n t).size = n.size + t.size + 4 := by
 unfold attrT
 simp only [ByteArray.size_append]
 show 1 + n.size + 2 + t.size + 1 = _
 omega
theorem cells_cat (a b : ByteArray) : Lib.strCells (a ++ b) = Lib.strCells a ++ Lib.strCells b := by
 simp [Lib.strCells, ByteArray.data_append]
theorem FileB.cat {w : World} {B g : Nat} {S : Value} {a b : ByteArray} (h : FileB w B g S (Lib.strCells a ++ Lib.strCells b)) : FileB w B g S (Lib.strCells (a ++ b)) := by
 rw [cells_cat]; exact h
set_option maxHeartbeats 4000000 in
set_option maxRecDepth 100000 in
theorem canon_attr.hof (B g : Nat) (S : Value) (out n v t : ByteArray) (w : World) (h : FileB w B g S (Lib.strCells out)) (hBw : B ≤ w.heap.size) (ht : escape_Text.f v = some t) (hz : out.size + n.size + t.size + 10 ≤ 140737488355328) :
  Calls Tryd.prog 23 #[.pointer (some ⟨g, 0, none⟩), .agg #[.string n, .string v]] w fun e w' => e = .returned (.tuple #[]) ∧ FileB w' B g S (Lib.strCells (out ++ attrT n t)) ∧ FKp B g w w' := by
 have hu1 := Tryd.underlying29
 have hu2 := Tryd.underlying46
 have c1 : (9223372036854775807 < 1 + n.size) = False := eq_false (by omega)
 have c2 : (9223372036854775807 < 1 + n.size + 2) = False := eq_false (by omega)
 have c3 : (9223372036854775807 < 1 + n.size + 2 + t.size) = False := eq_false (by omega)
 have c4 : (9223372036854775807 < 1 + n.size + 2 + t.size + 1) = False := eq_false (by omega)
 have HF := Aside0.mk h
 have HT := Aside0.mk ht
 have HZ := Aside0.mk hz
 have HW := Aside0.mk hBw
 clear h ht hz hBw
 go_enter Tryd.func23, Tryd.ntmps23
 go_wp2_with (first | ((with_reducible refine gate_dst (N := 3) rfl ?_); refine box_event ?hg (N := 3) ?hd (cs := #[.string n, .string v]) (t := 29) ?hr ?_; (case hd => rfl); (case hg => rfl); (case hr => first | (go_simp; done) | (go_simp; rfl)); intro ga hga w1 hbox1 hb1; have HA := Aside0.mk hbox1; have HB1 := Aside0.mk (FKp.of (g := g) hb1 HW.out); have HN := Aside0.mk (show ga ≠ g from by obtain ⟨_, _, _, h2, _⟩ := HF.out.at; have := blk_lt h2; omega); have HF1 := Aside0.mk (FileB.below HF.out hb1); have HW1 := Aside0.mk (Nat.le_trans HW.out hb1.size); clear hga hbox1 hb1))
 go_wp2_with fail
 refine start_ (n := 13) (S := fun w' => w'.cell? ⟨ga, 0, none⟩ = some (.string n) ∧ w'.cell? ⟨ga, 1, none⟩ = some (.string v)) (ds := []) #[false, false, false, false, false, false, false, false, false, false, false, false, false] (by kernel_rfl) rfl rfl ⟨(blk_cell HA.out 0).trans rfl, (blk_cell HA.out 1).trans rfl⟩ (fun hHeld => ?_)
 refine pure_ (i := 0) (N := some 4) (v := ?_) (a' := ?_) #[true, false, false, false, false, false, false, false, false, false, false, false, false] rfl rfl (by kernel_rfl) (fun _ _ _ h => h) (Or.inl ⟨by rfl, ?_⟩) ?_ ?_
 rotate_left
 ·intro w'
  go_simp
  with_reducible rfl
 rotate_left
 ·simp only [Act.put, setIfInBounds_toArray, set_cons_zero, set_cons_succ, i64_w, i32_w]
  rfl
 refine pure_ (i := 1) (N := some 5) (v := ?_) (a' := ?_) #[true, true, false, false, false, false, false, false, false, false, false, false, false] rfl rfl (by kernel_rfl) (fun _ _ _ h => h) (Or.inl ⟨by rfl, ?_⟩) ?_ ?_
 rotate_left
 ·intro w'
  go_simp
  with_reducible rfl
 rotate_left
 ·simp only [Act.put, setIfInBounds_toArray, set_cons_zero, set_cons_succ, i64_w, i32_w]
  rfl
 refine pure_ (i := 2) (N := some 6) (v := ?_) (a' := ?_) #[true, true, true, false, false, false, false, false, false, false, false, false, false] rfl rfl (by kernel_rfl) (fun _ _ _ h => h) (Or.inl ⟨by rfl, ?_⟩) ?_ ?_
 rotate_left
 ·intro w'
  go_simp
  with_reducible rfl
 rotate_left
 ·simp only [Act.put, setIfInBounds_toArray, set_cons_zero, set_cons_succ, i64_w, i32_w]
  rfl
 refine pure_ (i := 3) (N := some 7) (v := ?_) (a' := ?_) #[true, true, true, true, false, false, false, false, false, false, false, false, false] rfl rfl (by kernel_rfl) (fun _ _ _ h => h) (Or.inl ⟨by rfl, ?_⟩) ?_ ?_
 rotate_left
 ·intro w'
  go_simp
  with_reducible rfl
 rotate_left
 ·simp only [Act.put, setIfInBounds_toArray, set_cons_zero, set_cons_succ, i64_w, i32_w]
  rfl
 refine pure_ (i := 7) (N := some 11) (v := ?_) (a' := ?_) #[true, true, true, true, false, false, false, true, false, false, false, false, false] rfl rfl (by kernel_rfl) (fun _ _ _ h => h) (Or.inl ⟨by rfl, ?_⟩) ?_ ?_
 rotate_left
 ·intro w'
  go_simp
  with_reducible rfl
 rotate_left
 ·simp only [Act.put, setIfInBounds_toArray, set_cons_zero, set_cons_succ, i64_w, i32_w]
  rfl
 refine take_ (i := 4) (N := some 8) (v := ?_) (a' := ?_) #[true, true, true, true, true, false, false, true, false, false, false, false, false] rfl rfl (by kernel_rfl) (fun _ _ _ h => h) (Or.inl ⟨by rfl, ?_⟩) hHeld ?_ ?_
 rotate_left
 ·rintro w' ⟨s0, s1⟩
  go_simp
  with_reducible rfl
 rotate_left
 ·simp only [Act.put, setIfInBounds_toArray, set_cons_zero, set_cons_succ, i64_w, i32_w]
  rfl
 refine pure_ (i := 5) (N := some 9) (v := ?_) (a' := ?_) #[true, true, true, true, true, true, false, true, false, false, false, false, false] rfl rfl (by kernel_rfl) (fun _ _ _ h => h) (Or.inl ⟨by rfl, ?_⟩) ?_ ?_
 rotate_left
 ·intro w'
  go_simp
  with_reducible rfl
 rotate_left
 ·simp only [Act.put, setIfInBounds_toArray, set_cons_zero, set_cons_succ, i64_w, i32_w]
  rfl
 refine pure_ (i := 6) (N := some 10) (v := ?_) (a' := ?_) #[true, true, true, true, true, true, true, true, false, false, false, false, false] rfl rfl (by kernel_rfl) (fun _ _ _ h => h) (Or.inl ⟨by rfl, ?_⟩) ?_ ?_
 rotate_left
 ·intro w'
  go_simp
  with_reducible rfl
 rotate_left
 ·simp only [Act.put, setIfInBounds_toArray, set_cons_zero, set_cons_succ, i64_w, i32_w]
  rfl
 refine take_ (i := 8) (N := some 12) (v := ?_) (a' := ?_) #[true, true, true, true, true, true, true, true, true, false, false, false, false] rfl rfl (by kernel_rfl) (fun _ _ _ h => h) (Or.inl ⟨by rfl, ?_⟩) hHeld ?_ ?_
 rotate_left
 ·rintro w' ⟨s0, s1⟩
  go_simp
  with_reducible rfl
 rotate_left
 ·simp only [Act.put, setIfInBounds_toArray, set_cons_zero, set_cons_succ, i64_w, i32_w]
  rfl
 refine one_ (i := 9) (N := some 13) #[true, true, true, true, true, true, true, true, true, true, false, false, false] rfl rfl (by kernel_rfl) (by decide) (fun K hK => ?_)
 refine goes_ Tryd.func26 (by kernel_rfl) rfl #[.string v] (by rfl) rfl rfl (by simp only [List.map_toArray, List.map_cons, List.map_nil]; rfl) ?_
 with_reducible refine (escape_Text.calls v t _ HT.out).mono ?_
 rintro e w4 ⟨rfl, hb4⟩
 refine ⟨_, rfl, ?_⟩
 have HF4 := Aside0.mk (FileB.below (FileB.below HF1.out (below_drew (Below.refl _ _))) hb4)
 have HA4 := Aside0.mk (blk_below (blk_drew HA.out) hb4)
 have HB4 := Aside0.mk (FKp.then_ (FKp.drew HB1.out) hb4 HW1.out)
 have HW4 := Aside0.mk (Nat.le_trans HW1.out hb4.size)
 refine hK.out _ _ ⟨(blk_cell HA4.out 0).trans rfl, (blk_cell HA4.out 1).trans rfl⟩ (fun hHeld => ?_)
 clear hK K
 refine norm_ (a' := ?_) ?_ ?_
 rotate_left
 ·show Act.put _ (some 13) _ = _
  simp only [Act.put, setIfInBounds_toArray, set_cons_zero, set_cons_succ, i64_w, i32_w]
  rfl
 refine pure_ (i := 10) (N := some 14) (v := ?_) (a' := ?_) #[true, true, true, true, true, true, true, true, true, true, true, false, false] rfl rfl (by kernel_rfl) (fun _ _ _ h => h) (Or.inl ⟨by rfl, ?_⟩) ?_ ?_
 rotate_left
 ·intro w'
  go_simp
  with_reducible rfl
 rotate_left
 ·simp only [Act.put, setIfInBounds_toArray, set_cons_zero, set_cons_succ, i64_w, i32_w]
  rfl
 refine pure_ (i := 11) (N := some 15) (v := ?_) (a' := ?_) #[true, true, true, true, true, true, true, true, true, true, true, true, false] rfl rfl (by kernel_rfl) (fun _ _ _ h => h) (Or.inl ⟨by rfl, ?_⟩) ?_ ?_
 rotate_left
 ·intro w'
  go_simp
  with_reducible rfl
 rotate_left
 ·simp only [Act.put, setIfInBounds_toArray, set_cons_zero, set_cons_succ, i64_w, i32_w]
  rfl
 refine one_ (i := 12) (N := some 16) #[true, true, true, true, true, true, true, true, true, true, true, true, true] rfl rfl (by kernel_rfl) (by decide) (fun K hK => ?_)
 refine goes_ Tryd.func13 (by kernel_rfl) rfl #[.pointer (some ⟨g, 0, none⟩), .string (attrT n t)] (by rfl) rfl rfl (by simp only [List.map_toArray, List.map_cons, List.map_nil]; rfl) ?_
 refine (fwrite B g S _ _ _ HF4.out (by rw [Lib.strCells_length, attrT_size]; have := HZ.out; omega) HW4.out).mono ?_
 rintro e w5 ⟨rfl, hF5, hb5⟩
 refine ⟨_, rfl, ?_⟩
 have HF5 := Aside0.mk (FileB.cat hF5)
 have HA5 := Aside0.mk (FKp.blk hb5 HA4.out HN.out (by decide))
 have HB5 := Aside0.mk (FKp.trans HB4.out hb5)
 refine hK.out _ _ ⟨(blk_cell HA5.out 0).trans rfl, (blk_cell HA5.out 1).trans rfl⟩ (fun hHeld => ?_)
 clear hK K
 refine norm_ (a' := ?_) ?_ ?_
 rotate_left
 ·show Act.put _ (some 16) _ = _
  simp only [Act.put, setIfInBounds_toArray, set_cons_zero, set_cons_succ, i64_w, i32_w]
  rfl
 refine done_ (by kernel_rfl) ?_
 go_wp2
 go_end0
 exact ⟨rfl, HF5.out, HB5.out⟩
def escT (v : ByteArray) : ByteArray := ⟨(escL v.data.toList).toArray⟩
theorem escB_one (b : UInt8) : 1 ≤ (escB b).length := by
 unfold escB signB
 repeat' split
 all_goals simp
theorem escL_ge : ∀ l : List UInt8, l.length ≤ (escL l).length
 | [] => Nat.zero_le _
 | b :: t => by
  have h1 := escB_one b
  have h2 := escL_ge t
  unfold escL at h2 ⊢
  rw [List.flatMap_cons, List.length_append, List.length_cons]
  omega
theorem escT_ge (v : ByteArray) : v.size ≤ (escT v).size := by
 have := escL_ge v.data.toList
 show v.data.toList.length ≤ (escL v.data.toList).toArray.size
 rw [List.size_toArray]
 exact this
theorem escT_f (v : ByteArray) (h : v.size ≤ 1000000000000) : escape_Text.f v = some (escT v) := by
 unfold escape_Text.f
 rw [if_pos h]; rfl
def attrsO (out : ByteArray) (l : List S29) : ByteArray := l.foldl (fun o a => o ++ attrT a.f0 (escT a.f1)) out
theorem attrsO_size : ∀ (l : List S29) (out : ByteArray), out.size ≤ (attrsO out l).size
 | [], out => Nat.le_refl _
 | a :: r, out => by
  have := attrsO_size r (out ++ attrT a.f0 (escT a.f1))
  rw [ByteArray.size_append] at this
  show out.size ≤ (attrsO (out ++ attrT a.f0 (escT a.f1)) r).size
  omega
theorem attrsO_next (out : ByteArray) (l : List S29) (i : Nat) (h : i < l.length) : attrsO out (l.take (i + 1)) = attrsO out (l.take i) ++ attrT l[i].f0 (escT l[i].f1) := by
 unfold attrsO
 rw [List.take_succ_eq_append_getElem h, List.foldl_append]
 rfl
theorem attrsO_le (out : ByteArray) (l : List S29) (i : Nat) : (attrsO out (l.take i)).size ≤ (attrsO out l).size := by
 have := attrsO_size (l.drop i) (attrsO out (l.take i))
 unfold attrsO at this ⊢
 rw [← List.foldl_append, List.take_append_drop] at this
 exact this
set_option maxHeartbeats 4000000 in
set_option maxRecDepth 100000 in
theorem api_Attr.hof (g : Nat) (S : Value) (A0 : Option Addr) (c0 : Nat) (l0 : List S29) (out : ByteArray) (w0 w : World) (hr0 : Kd.C k29 w0 A0 l0.length l0) (hl0 : l0.length ≤ 9223372036854775807) (hb0 : Below w0.heap.size w0 w) (h : FileB w w0.heap.size g S (Lib.strCells out)) (hz : (attrsO out l0).size + 10 ≤ 1000000000000) :
  Calls Tryd.prog 24 #[.pointer (some ⟨g, 0, none⟩), .slice A0 l0.length c0, .func (.func 23) #[] #[]] w fun e w' => e = .returned (.tuple #[]) ∧ FileB w' w0.heap.size g S (Lib.strCells (attrsO out l0)) ∧ FKp w0.heap.size g w w' := by
 have hu1 := Tryd.underlying29
 have hF : IsFn Tryd.prog 23 := ⟨⟨_, Tryd.func23, by kernel_rfl, rfl⟩⟩
 have HR := Aside0.mk hr0
 have HB0 := Aside0.mk hb0
 have HF0 := Aside0.mk h
 have HZ := Aside0.mk hz
 clear hr0 hb0 h hz
 go_enter Tryd.func24, Tryd.ntmps24
 go_wp2
 go_loopg [7, 10] (l0.length + 1) (fun gk v7 v10 wr => ∃ i : Nat, i ≤ l0.length ∧ v10 = .int .i64 i ∧ l0.length < gk + i ∧ Aside0 (FileB wr w0.heap.size g S (Lib.strCells (attrsO out (l0.take i)))) ∧ Aside0 (FKp w0.heap.size g w wr))
 case atStart => exact ⟨0, Nat.zero_le _, rfl, by omega, HF0, ⟨FKp.refl _ _ _⟩⟩
 case round =>
  clear HF0
  obtain ⟨i, hi, rfl, hk, HF1, HK⟩ := hrel
  by_cases hlt : i < l0.length
  ·obtain ⟨k', rfl⟩ : ∃ k', gk = k' + 1 := ⟨gk - 1, by omega⟩
   have hltz : (i : Int) < (l0.length : Int) := by omega
   have HBr := Aside0.mk (HB0.out.trans HK.out.1)
   obtain ⟨ad, e1, hx, hy⟩ := at_T29 (Kd.C_below HR.out HBr.out) (i : Int) (by omega) (by omega)
   cases e1
   rw [Int.toNat_natCast] at hx hy
   have hrd : rd_T29 l0 (i : Int) = l0[i] := by simp [rd_T29, hlt]
   rw [hrd] at hx hy
   clear hrd
   have hnext := attrsO_next out l0 i hlt
   have hle := attrsO_le out l0 (i + 1)
   obtain ⟨x, hxx⟩ : ∃ x, l0[i] = x := ⟨_, rfl⟩
   rw [hxx] at hx hy hnext
   rw [hnext, ByteArray.size_append, attrT_size] at hle
   have HNx := Aside0.mk hnext
   have HLe := Aside0.mk hle
   clear hnext hle hxx
   have hge := escT_ge x.f1
   have HGe := Aside0.mk hge
   clear hge
   go_wp2_with (first | ((with_reducible refine gate_dst (N := 7) rfl ?_); refine box_event ?hg (N := 7) ?hd (cs := #[.string (⟨#[]⟩ : ByteArray), .string (⟨#[]⟩ : ByteArray)]) (t := 29) ?hr ?_; (case hd => rfl); (case hg => rfl); (case hr => first | (go_simp; done) | (go_simp; rfl)); intro ga hga w1 hbox1 hb1; have HA := Aside0.mk hbox1; have HB1 := Aside0.mk hb1; have HG := Aside0.mk (show wr.heap.size ≤ ga from Nat.le_of_eq hga.symm); clear hga hbox1 hb1; have hc0 : w1.cell? ⟨ga, 0, none⟩ = some (.string (⟨#[]⟩ : ByteArray)) := (blk_cell HA.out 0).trans rfl; have hc1 : w1.cell? ⟨ga, 1, none⟩ = some (.string (⟨#[]⟩ : ByteArray)) := (blk_cell HA.out 1).trans rfl; have hf0 := blk_frozen HA.out 0; have hf1 := blk_frozen HA.out 1) | ((with_reducible refine gate_value rfl ?_); refine goesV (some 17) rfl rfl rfl rfl hF #[.pointer (some ⟨g, 0, none⟩), .agg #[.string x.f0, .string x.f1]] (by simp only [List.map_toArray, List.map_cons, List.map_nil]; rfl) ?_; refine (canon_attr.hof w0.heap.size g S (attrsO out (l0.take i)) x.f0 x.f1 (escT x.f1) _ (FileB.below HF1.out (by (repeat (refine Below.setCell ?_ HG.out _)); exact HB1.out)) (Nat.le_trans HBr.out.size (Below.size (B := wr.heap.size) (by (repeat (refine Below.setCell ?_ HG.out _)); exact HB1.out))) (escT_f _ (by have := HGe.out; have := HLe.out; have := HZ.out; omega)) (by have := HLe.out; have := HZ.out; omega)).mono ?_; rintro e w4 ⟨rfl, hF4, hb4⟩; refine ⟨_, rfl, ?_⟩; have HF4 := Aside0.mk hF4; have HB4 := Aside0.mk (FKp.trans (FKp.then_ HK.out (by (repeat (refine Below.setCell ?_ HG.out _)); exact HB1.out) HBr.out.size) hb4); clear hF4 hb4))
   go_roundg k'
   case measure => omega
   case rel => exact ⟨i + 1, by omega, by go_num, by omega, ⟨by rw [HNx.out]; exact HF4.out⟩, HB4⟩
  have : i = l0.length := by omega
  subst this
  go_wp2
  go_end0
  have := HF1.out
  rw [List.take_length] at this
  exact ⟨rfl, this, HK.out⟩
end Go.Proofs.YtgacmniagmfckaaDoor.Q
