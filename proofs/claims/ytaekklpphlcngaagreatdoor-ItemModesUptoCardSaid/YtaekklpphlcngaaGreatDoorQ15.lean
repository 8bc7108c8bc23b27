-- Written by hookprint.py (wip/) of this session: the kit's print with hand-proved functions beside it. Not trusted: Lean checks it.
import Derived.Test.YtaekklpphlcngaaGreatDoorQ0
import Derived.Test.YtaekklpphlcngaaGreatDoorQ14
namespace Go.Proofs.YtaekklpphlcngaaGreatDoor.Q
open List (setIfInBounds_toArray set_cons_zero set_cons_succ)
open Go.RowKit Go.Lib Go.Proofs.YtaekklpphlcngaaGreatDoorX Go.Proofs.YtaekklpphlcngaaGreatDoorW.PrintWords Go.Proofs.YtaekklpphlcngaaGreatDoorW.PrintLast Go.Proofs.YtaekklpphlcngaaGreatDoorW.PrintMore
set_option linter.unusedVariables false
set_option linter.unusedSimpArgs false
mutual
def cardexplay_Line.l0 : Nat → ByteArray → Int → ByteArray → Int → Option (ByteArray)
 | 0, _, _, _, _ => none
 | k + 1, x0, x1, x5, x6 => if x6 < (x0.size : Int) then (cardexplay_Line.j1 k x0 x1 x5 x6 (decide ((x5.size : Int) < x1))) else (cardexplay_Line.j1 k x0 x1 x5 x6 false)
def cardexplay_Line.j1 : Nat → ByteArray → Int → ByteArray → Int → Bool → Option (ByteArray)
 | 0, _, _, _, _, _ => none
 | k + 1, x0, x1, x5, x6, x20 => if x20 = true then (if 0 ≤ x6 then (if x6 < (x0.size : Int) then (if (bt x0 x6) ≥ 32 then (if (bt x0 x6) < 127 then (if x6 ≤ (wrap64 (x6 + 1)) then (if (wrap64 (x6 + 1)) ≤ (x0.size : Int) then ((some (x0.extract (x6 : Int).toNat ((wrap64 (x6 + 1)) : Int).toNat : ByteArray)).bind fun y478 => (if x5.size + y478.size ≤ 9223372036854775807 then (cardexplay_Line.l0 k x0 x1 (x5 ++ y478) (wrap64 (x6 + 1))) else (none))) else (none)) else (none)) else (cardexplay_Line.l0 k x0 x1 x5 (wrap64 (x6 + 1)))) else (cardexplay_Line.l0 k x0 x1 x5 (wrap64 (x6 + 1)))) else (none)) else (none)) else (some x5)
end
def cardexplay_Line.f (k : Nat) (a0 : ByteArray) (a1 : Int) : Option (ByteArray) := (cardexref01_Line.f k a0 a1).bind fun t477 => (if t477 = true then (some a0) else (cardexplay_Line.l0 k a0 a1 (⟨#[]⟩ : ByteArray) 0))
theorem lf29 {P : Prop} (h : P := by
 go_wp2
 first
  | (go_meet; (case rel => exact ⟨_, (decide ((x5_1.size : Int) < a1)), zz1, H', ⟨zz55⟩, ⟨zz0⟩⟩))
  | (go_meet; (case rel => exact ⟨_, (false), zz1, H', ⟨zz55⟩, ⟨zz0⟩⟩))
  | (go_roundg kj6; (case measure => have := HK1.out; have := HJ6.out; omega); (case rel => exact ⟨(x5_1 ++ y478), (wrap64 (x6_1 + 1)), zz1, zz1, H', ⟨by have := HK1.out; have := HJ6.out; omega⟩, ⟨zz0⟩⟩))
  | (go_roundg kj6; (case measure => have := HK1.out; have := HJ6.out; omega); (case rel => exact ⟨(x5_1), (wrap64 (x6_1 + 1)), zz1, zz1, H', ⟨by have := HK1.out; have := HJ6.out; omega⟩, ⟨zz0⟩⟩))
  | (go_ret; exact ⟨zz4, zz0⟩)) : P := h
set_option maxHeartbeats 8000000 in
set_option maxRecDepth 100000 in
theorem cardexplay_Line.calls (k : Nat) (a0 : ByteArray) (a1 : Int) (r : ByteArray) (w : World) (h : cardexplay_Line.f k a0 a1 = some r) :
  Calls Tryz.prog 14 #[.string a0, .int .i64 a1] w fun e w' => e = .returned (.string r) ∧ Below w.heap.size w w' := by
 have HB := Aside0.mk (Below.refl w.heap.size w)
 have H : ((cardexref01_Line.f k a0 a1).bind fun t477 => (if t477 = true then (some a0) else (cardexplay_Line.l0 k a0 a1 (⟨#[]⟩ : ByteArray) 0))) = some r := h
 clear h
 replace H := Option.bind_eq_some_iff.mp H
 obtain ⟨t477, A30, H⟩ := H
 try dsimp only at H
 have A3 := Aside0.mk A30
 clear A30
 by_cases c4 : t477 = true
 ·subst c4
  have H1 : (some a0) = some r := by rw [if_pos rfl] at H; exact H
  clear H
  have H := H1
  clear H1
  obtain rfl := Option.some.inj H
  go_enter Tryz.func14, Tryz.ntmps14
  go_wp2_with (first | ((with_reducible refine gc 32 ?_); refine gL (some 9) Tryz.func32 #[.string a0, .int .i64 a1] ?_; (with_reducible refine (cardexref01_Line.calls k a0 a1 true _ A3.out).mono ?_); rintro e w5 ⟨rfl, hb⟩; refine ⟨_, rfl, ?_⟩; replace HB := Aside0.mk (below_step zz0 hb); (try clear hb)))
  go_ret
  exact ⟨zz4, zz0⟩
 replace c4 := Bool.eq_false_iff.mpr c4
 subst c4
 have H1 : (cardexplay_Line.l0 k a0 a1 (⟨#[]⟩ : ByteArray) 0) = some r := by rw [if_neg (show ¬ (false = true) by decide)] at H; exact H
 clear H
 have H := H1
 clear H1
 have H' := Aside0.mk H
 clear H
 go_enter Tryz.func14, Tryz.ntmps14
 go_wp2_with (first | ((with_reducible refine gc 32 ?_); refine gL (some 9) Tryz.func32 #[.string a0, .int .i64 a1] ?_; (with_reducible refine (cardexref01_Line.calls k a0 a1 false _ A3.out).mono ?_); rintro e w6 ⟨rfl, hb⟩; refine ⟨_, rfl, ?_⟩; replace HB := Aside0.mk (below_step zz0 hb); (try clear hb)))
 go_loopg [5, 6] k (fun kq v5 v6 w' => ∃ (x5_1 : ByteArray) (x6_1 : Int), v5 = .string x5_1 ∧ v6 = .int .i64 x6_1 ∧ Aside0 (cardexplay_Line.l0 kq a0 a1 x5_1 x6_1 = some r) ∧ Aside0 (kq ≤ k) ∧ Aside0 (Below w.heap.size w w'))
 case atStart => exact ⟨((⟨#[]⟩ : ByteArray)), (0), zz1, zz1, H', ⟨Nat.le_refl _⟩, ⟨zz0⟩⟩
 case round =>
  clear H'
  try clear c1
  try clear p2
  try clear c3
  try clear c4
  obtain ⟨x5_1, x6_1, rfl, rfl, HA, HK1, HB⟩ := hrel
  cases gk with
  | zero => exact absurd HA.out (by simp [cardexplay_Line.l0])
  | succ k1 =>
   have H := HA.out
   clear HA
   simp only [cardexplay_Line.l0] at H
   have HC7 := Aside0.mk H
   clear H
   go_upto_region 5 with (fail)
   go_cut [20] (fun v20 wc => ∃ (kq : Nat) (x20_6 : Bool), v20 = .bool x20_6 ∧ Aside0 (cardexplay_Line.j1 kq a0 a1 x5_1 x6_1 x20_6 = some r) ∧ Aside0 (kq ≤ k1) ∧ Aside0 (Below w.heap.size w wc))
   case first =>
    have H := HC7.out
    clear HC7
    by_cases c8 : x6_1 < (a0.size : Int)
    ·rw [if_pos c8] at H
     have c8b0 := decide_eq_true c8
     clear c8
     (first | rw [c8b0] | (simp only [i64_w, i32_w]; rw [c8b0]) | skip)
     have H' := Aside0.mk H
     clear H
     exact lf29
    rw [if_neg c8] at H
    have c8b0 := decide_eq_false c8
    clear c8
    (first | rw [c8b0] | (simp only [i64_w, i32_w]; rw [c8b0]) | skip)
    have H' := Aside0.mk H
    clear H
    exact lf29
   case rest =>
    clear HC7
    try clear c1
    try clear p2
    try clear c3
    try clear c4
    try clear c8
    try clear c8b0
    try clear p2
    obtain ⟨kq, x20_6, rfl, HA, HJ6, HB⟩ := hcut
    cases kq with
    | zero => exact absurd HA.out (by simp [cardexplay_Line.j1])
    | succ kj6 =>
     have H := HA.out
     clear HA
     simp only [cardexplay_Line.j1] at H
     by_cases c9 : x20_6 = true
     ·subst c9
      have H1 : (if 0 ≤ x6_1 then (if x6_1 < (a0.size : Int) then (if (bt a0 x6_1) ≥ 32 then (if (bt a0 x6_1) < 127 then (if x6_1 ≤ (wrap64 (x6_1 + 1)) then (if (wrap64 (x6_1 + 1)) ≤ (a0.size : Int) then ((some (a0.extract (x6_1 : Int).toNat ((wrap64 (x6_1 + 1)) : Int).toNat : ByteArray)).bind fun y478 => (if x5_1.size + y478.size ≤ 9223372036854775807 then (cardexplay_Line.l0 kj6 a0 a1 (x5_1 ++ y478) (wrap64 (x6_1 + 1))) else (none))) else (none)) else (none)) else (cardexplay_Line.l0 kj6 a0 a1 x5_1 (wrap64 (x6_1 + 1)))) else (cardexplay_Line.l0 kj6 a0 a1 x5_1 (wrap64 (x6_1 + 1)))) else (none)) else (none)) = some r := by rw [if_pos rfl] at H; exact H
      clear H
      have H := H1
      clear H1
      by_cases c10 : 0 ≤ x6_1
      ·rw [if_pos c10] at H
       have c10b0 := decide_eq_true c10
       clear c10
       by_cases c11 : x6_1 < (a0.size : Int)
       ·rw [if_pos c11] at H
        have c11b0 := decide_eq_true c11
        clear c11
        by_cases c13 : (bt a0 x6_1) ≥ 32
        ·rw [if_pos c13] at H
         have c13b0 := decide_eq_true c13
         clear c13
         by_cases c15 : (bt a0 x6_1) < 127
         ·rw [if_pos c15] at H
          have c15b0 := decide_eq_true c15
          clear c15
          have c16b0 := eq_true (of_decide_eq_true zz6 : 0 ≤ x6_1)
          by_cases c17 : x6_1 ≤ (wrap64 (x6_1 + 1))
          ·rw [if_pos c17] at H
           have c17b0 := eq_true c17
           have c17b1 : decide (x6_1 ≤ (wrap64 (x6_1 + 1))) = true := decide_eq_true c17
           by_cases c18 : (wrap64 (x6_1 + 1)) ≤ (a0.size : Int)
           ·rw [if_pos c18] at H
            have c18b0 := eq_true c18
            have c18b1 : decide ((wrap64 (x6_1 + 1)) ≤ (a0.size : Int)) = true := decide_eq_true c18
            obtain ⟨y478, hy478⟩ : ∃ y_ : ByteArray, y_ = (a0.extract (x6_1 : Int).toNat ((wrap64 (x6_1 + 1)) : Int).toNat) := ⟨_, rfl⟩
            replace H : (if x5_1.size + y478.size ≤ 9223372036854775807 then (cardexplay_Line.l0 kj6 a0 a1 (x5_1 ++ y478) (wrap64 (x6_1 + 1))) else (none)) = some r := by first | (rw [hy478]; with_reducible exact H) | (have H2_ := (Option.bind_some _ _).symm.trans H; rw [hy478]; with_reducible exact H2_) | (have H2_ := (Option.bind_some _ _).symm.trans H; with_reducible exact H2_) | with_reducible exact H | (rw [hy478]; exact H) | exact H
            have Ny478 := Aside0.mk hy478
            clear hy478
            have ey478 : (a0.extract (x6_1 : Int).toNat ((wrap64 (x6_1 + 1)) : Int).toNat) = y478 := Ny478.out.symm
            by_cases c19 : x5_1.size + y478.size ≤ 9223372036854775807
            ·rw [if_pos c19] at H
             have c19b0 := eq_true c19
             have c19b1 : decide (x5_1.size + y478.size ≤ 9223372036854775807) = true := decide_eq_true c19
             try have c19b2 : (9223372036854775807 < x5_1.size + y478.size) = False := eq_false (Nat.not_lt.2 c19)
             have H' := Aside0.mk H
             clear H
             have p12 : 0 ≤ (x6_1 : Int) := of_decide_eq_true zz6
             have q12 : x6_1 < (a0.size : Int) := of_decide_eq_true zz6
             have hx12 := bt_at a0 x6_1
             replace p12 := eq_true p12
             replace q12 := eq_true q12
             have p14 : 0 ≤ (x6_1 : Int) := of_decide_eq_true zz6
             have q14 : x6_1 < (a0.size : Int) := of_decide_eq_true zz6
             have hx14 := bt_at a0 x6_1
             replace p14 := eq_true p14
             replace q14 := eq_true q14
             exact lf29
            rw [if_neg c19] at H
            exact absurd H (by simp)
           rw [if_neg c18] at H
           exact absurd H (by simp)
          rw [if_neg c17] at H
          exact absurd H (by simp)
         rw [if_neg c15] at H
         have c15b0 := decide_eq_false c15
         clear c15
         have H' := Aside0.mk H
         clear H
         have p12 : 0 ≤ (x6_1 : Int) := of_decide_eq_true zz6
         have q12 : x6_1 < (a0.size : Int) := of_decide_eq_true zz6
         have hx12 := bt_at a0 x6_1
         replace p12 := eq_true p12
         replace q12 := eq_true q12
         have p14 : 0 ≤ (x6_1 : Int) := of_decide_eq_true zz6
         have q14 : x6_1 < (a0.size : Int) := of_decide_eq_true zz6
         have hx14 := bt_at a0 x6_1
         replace p14 := eq_true p14
         replace q14 := eq_true q14
         exact lf29
        rw [if_neg c13] at H
        have c13b0 := decide_eq_false c13
        clear c13
        have H' := Aside0.mk H
        clear H
        have p12 : 0 ≤ (x6_1 : Int) := of_decide_eq_true zz6
        have q12 : x6_1 < (a0.size : Int) := of_decide_eq_true zz6
        have hx12 := bt_at a0 x6_1
        replace p12 := eq_true p12
        replace q12 := eq_true q12
        exact lf29
       rw [if_neg c11] at H
       exact absurd H (by simp)
      rw [if_neg c10] at H
      exact absurd H (by simp)
     replace c9 := Bool.eq_false_iff.mpr c9
     subst c9
     have H1 : (some x5_1) = some r := by rw [if_neg (show ¬ (false = true) by decide)] at H; exact H
     clear H
     have H := H1
     clear H1
     obtain rfl := Option.some.inj H
     exact lf29
def upTo (x : ByteArray) : List ByteArray → Nat
 | [] => 0
 | y :: l => if Op.bytesLess y.toList x.toList then upTo x l + 1 else 0
theorem upTo_le (x : ByteArray) : ∀ l, upTo x l ≤ l.length
 | [] => Nat.le_refl _
 | y :: l => by
  unfold upTo
  have := upTo_le x l
  simp only [List.length_cons]
  split <;> omega
theorem upTo_go (x : ByteArray) : ∀ (l : List ByteArray) (k : Nat) (hk : k < l.length), k ≤ upTo x l → Op.bytesLess l[k].toList x.toList = true → k + 1 ≤ upTo x l
 | [], k, hk, _, _ => by simp at hk
 | y :: l, 0, hk, _, h => by
  unfold upTo
  rw [if_pos (by simpa using h)]; omega
 | y :: l, k + 1, hk, h1, h => by
  unfold upTo at h1 ⊢
  split at h1
  ·rename_i hc
   rw [if_pos hc]
   have := upTo_go x l k (by simpa using hk) (by omega) (by simpa using h)
   omega
  omega
theorem upTo_stop (x : ByteArray) : ∀ (l : List ByteArray) (k : Nat) (hk : k < l.length), k ≤ upTo x l → Op.bytesLess l[k].toList x.toList = false → k = upTo x l
 | [], k, hk, _, _ => by simp at hk
 | y :: l, 0, hk, _, h => by
  unfold upTo
  rw [if_neg (by simpa using h)]
 | y :: l, k + 1, hk, h1, h => by
  unfold upTo at h1 ⊢
  split at h1
  ·rename_i hc
   rw [if_pos hc]
   have := upTo_stop x l k (by simpa using hk) (by omega) (by simpa using h)
   omega
  omega
def insAt {α : Type} (l : List α) (k : Nat) (x : α) : List α := l.take k ++ [x] ++ l.drop k
theorem insAt_len {α : Type} (l : List α) (k : Nat) (x : α) : (insAt l k x).length = l.length + 1 := by
 unfold insAt
 simp only [List.length_append, List.length_cons, List.length_nil, List.length_take, List.length_drop]
 omega
def hasAt (out : List ByteArray) (k : Nat) (x : ByteArray) : Bool := match out[k]? with
 | some y => y.toList == x.toList
 | none => false
def grpS (out : List ByteArray) (x : ByteArray) : List ByteArray := if x.toList == [] then out else if hasAt out (upTo x out) x then out else insAt out (upTo x out) x
theorem grpS_len (out : List ByteArray) (x : ByteArray) : (grpS out x).length ≤ out.length + 1 := by
 unfold grpS
 repeat' split
 all_goals (try rw [insAt_len]); all_goals omega
theorem fold_next {α β : Type} (f : β → α → β) (b : β) (l : List α) (i : Nat) (h : i < l.length) : (l.take (i + 1)).foldl f b = f ((l.take i).foldl f b) l[i] := by
 rw [List.take_add_one, List.getElem?_eq_getElem h, List.foldl_append]
 rfl
theorem C_takeN {α : Type} {d : Kd α} {w : World} {A : Option Addr} {xs l1 : List α} {k : Nat} (h : d.C w A xs.length xs) (hk : k ≤ xs.length) (hl : l1 = xs.take k) : d.C w A k l1 := by
 have := Kd.C_take h hk
 rw [List.length_take, Nat.min_eq_left hk] at this
 rw [hl]
 exact this
theorem cut_dropC {P : Program} {α : Type} {d : Kd α} {w : World} {A : Option Addr} {l : List α} (h : d.C w A l.length l) (t e : TypeId) (kl : IntKind) {i : TypeInfo} (ht : P.underlying t = some (.slice e)) (hi : P.info? e = some i) (hsz : i.size = d.sz) (c m : Nat) (hm : m ≤ l.length) (hc : l.length ≤ c) :
  ∃ (A2 : Option Addr) (l2 : List α) (c2 : Nat), l2 = l.drop m ∧ (∀ W : World, (Instr.slice t (.slice A l.length c) (some (.int kl (m : Int))) none none).run P W = .ok (.slice A2 l2.length c2) W) ∧ d.C w A2 l2.length l2 ∧ l2.length ≤ c2 := by
 obtain ⟨A2, l2, c2, h1, h2, h3, h4⟩ := cut_drop (P := P) d t e kl ht hi hsz A c l m (m : Int) rfl hm hc
 exact ⟨A2, l2, c2, h1, h2, h3 w h, h4⟩
def cardexref08_Groups.f (l0 : List ByteArray) : Option (List ByteArray) := if l0.length ≤ 1000000 then some (l0.foldl grpS []) else none
theorem lf30 {P : Prop} (h : P := by
 go_wp2
 first
  | (go_quiet (fail); go_wp2; go_roundg j'; (case measure => omega); (case rel => exact ⟨k + 1, HLt.out, congrArg (Value.int .i64) (by have := HL.out; have := HN.out; have := HLt.out; unfold wrap64; omega), by have := HLt.out; omega, ⟨upTo_go x out k h1 HU.out h2⟩, ⟨by (with_reducible repeat (first | apply pw_below_drewN | apply below_drew1)); exact HB2.out⟩⟩))
  | (go_quiet (fail); go_wp2; go_quiet (fail); go_wp2; go_roundg k'; (case measure => omega); (case rel => exact ⟨i + 1, out, hlt, congrArg (Value.int .i64) (by have := HL.out; unfold wrap64; omega), by omega, ⟨by rw [fold_next grpS [] l0 i hlt, ← HF.out, HX.out, HG.out]⟩, ⟨by have := HN.out; omega⟩, ⟨by (with_reducible repeat (first | apply Kd.R_drewN | apply Kd.R_drew)); exact Kd.R_below HO.out HB2.out⟩, ⟨by (with_reducible repeat (first | apply pw_below_drewN | apply below_drew1)); exact below2 HB.out HB2.out⟩⟩))
  | (go_ret; refine ⟨_, rfl, ?_, HB.out⟩; have h1 := HF.out; rw [List.take_length] at h1; rw [← h1]; exact HO.out)) : P := h
set_option maxHeartbeats 8000000 in
set_option maxRecDepth 100000 in
theorem cardexref08_Groups.calls (A0 : Option Addr) (c0 : Nat) (l0 : List ByteArray) (r : List ByteArray) (w : World) (hr0 : Kd.string.C w A0 l0.length l0) (hc0 : l0.length ≤ c0) (h : cardexref08_Groups.f l0 = some r) :
  Calls Tryz.prog 16 #[.slice A0 l0.length c0] w fun e w' => ∃ v0_ : Value, e = .returned (v0_) ∧ Kd.string.R 9 w' w.heap.size (fun _ => True) v0_ r ∧ Below w.heap.size w w' := by
 unfold cardexref08_Groups.f at h
 split at h
 ·rename_i hl
  obtain rfl := Option.some.inj h
  have HR := Aside0.mk hr0
  have HL := Aside0.mk hl
  obtain ⟨i0, hi0, hz0, hz1, hz2⟩ := info_parts info9
  clear h hl hr0 hc0
  go_enter Tryz.func16, Tryz.ntmps16
  go_wp2
  go_loopg [3, 4] (l0.length + 1) (fun gk v3 v4 wr => ∃ (i : Nat) (out : List ByteArray), i ≤ l0.length ∧ v4 = .int .i64 i ∧ l0.length < gk + i ∧ Aside0 (out = (l0.take i).foldl grpS []) ∧ Aside0 (out.length ≤ i) ∧ Aside0 (Kd.string.R 9 wr w.heap.size (fun _ => True) v3 out) ∧ Aside0 (Below w.heap.size w wr))
  case atStart => exact ⟨0, [], by omega, rfl, by omega, ⟨rfl⟩, ⟨by simp⟩, ⟨Kd.R_nil _ _ _ _ _⟩, ⟨Below.refl _ _⟩⟩
  case round =>
   obtain ⟨i, out, hi, rfl, hk, HF, HN, HO, HB⟩ := hrel
   by_cases hlt : i < l0.length
   ·obtain ⟨k', rfl⟩ : ∃ k', gk = k' + 1 := ⟨gk - 1, by omega⟩
    have hltz : (i : Int) < (l0.length : Int) := by omega
    have hiz : (0 : Int) ≤ (i : Int) := by omega
    obtain ⟨A, c, rfl, hc, hC⟩ := Kd.R_reads HO.out
    have HC := Aside0.mk hC
    have HCC := Aside0.mk hc
    obtain ⟨adx, e1, hx⟩ := Kd.at_string (Kd.C_below HR.out HB.out) (i : Int) hiz hltz
    cases e1
    rw [rdOf_get _ l0 i hlt] at hx
    obtain ⟨x, hxx⟩ : ∃ x, l0[i] = x := ⟨_, rfl⟩
    rw [hxx] at hx
    rw [Int.toNat_natCast] at hx
    have HX := Aside0.mk hxx
    have HXC := Aside0.mk hx
    clear hxx hC hx hc
    go_wp2
    go_loopg [5] (out.length + 1) (fun gj v5 wr2 => ∃ k : Nat, k ≤ out.length ∧ v5 = .int .i64 k ∧ out.length < gj + k ∧ Aside0 (k ≤ upTo x out) ∧ Aside0 (Below wr.heap.size wr wr2))
    case atStart => exact ⟨0, by omega, rfl, by omega, ⟨by omega⟩, ⟨Below.refl _ _⟩⟩
    case round =>
     obtain ⟨k, hk2, rfl, hgj, HU, HB2⟩ := hrel
     have hx := (HB2.out.cell (World.block_lt_of_cell? _ _ HXC.out)).trans HXC.out
     have hkz : (0 : Int) ≤ (k : Int) := by omega
     refine (Nat.lt_or_ge k out.length).elim (fun h1 => ?lt) (fun h1 => ?ge)
     case' lt =>
      have h1z : (k : Int) < (out.length : Int) := by omega
      have HLt := Aside0.mk h1
      obtain ⟨ady, e2, hy⟩ := Kd.at_string (Kd.C_below HC.out HB2.out) (k : Int) hkz h1z
      cases e2
      rw [rdOf_get _ out k h1, Int.toNat_natCast] at hy
      have c1b0 : decide ((k : Int) < (out.length : Int)) = true := decide_eq_true h1z
      refine (Bool.eq_false_or_eq_true (Op.bytesLess out[k].toList x.toList)).elim (fun h2 => ?go) (fun h2 => ?stop)
     case go =>
      obtain ⟨j', rfl⟩ : ∃ j', gk = j' + 1 := ⟨gk - 1, by omega⟩
      exact lf30
     case' stop =>
      have HS := Aside0.mk (upTo_stop x out k h1 HU.out h2)
      refine (Classical.em (x.toList = ([] : List UInt8))).elim (fun he => ?same1) (fun he => ?atk)
     case' atk => refine (Bool.eq_false_or_eq_true (out[k].toList == x.toList)).elim (fun h3 => ?same2) (fun h3 => ?ins1)
     case' ge =>
      have HS := Aside0.mk (show k = upTo x out from by have := upTo_le x out; have := HU.out; omega)
      have c1b0 : decide (k < out.length) = false := decide_eq_false (by omega)
      have c1n0 : (k < out.length) = False := eq_false (by omega)
      refine (Classical.em (x.toList = ([] : List UInt8))).elim (fun he => ?same3) (fun he => ?ins2)
     case' same1 =>
      have HG := Aside0.mk (show grpS out x = out from by unfold grpS; rw [he]; rfl)
      have heb : (x.toList == ([] : List UInt8)) = true := by rw [he]; rfl
     case' same2 =>
      have HG := Aside0.mk (show grpS out x = out from by unfold grpS hasAt; rw [← HS.out, List.getElem?_eq_getElem h1]; simp only [h3, if_true, ite_self])
      have heb : (x.toList == ([] : List UInt8)) = false := beq_eq_false_iff_ne.mpr he
     case' same3 =>
      have HG := Aside0.mk (show grpS out x = out from by unfold grpS; rw [he]; rfl)
      have heb : (x.toList == ([] : List UInt8)) = true := by rw [he]; rfl
     case' ins1 =>
      have HG := Aside0.mk (show grpS out x = insAt out k x from by unfold grpS hasAt; rw [← HS.out, List.getElem?_eq_getElem h1, if_neg (by simpa using he)]; simp only [h3]; rfl)
      have heb : (x.toList == ([] : List UInt8)) = false := beq_eq_false_iff_ne.mpr he
     case' ins2 =>
      have HG := Aside0.mk (show grpS out x = insAt out k x from by unfold grpS hasAt; rw [← HS.out, List.getElem?_eq_none h1, if_neg (by simpa using he)]; rfl)
      have heb : (x.toList == ([] : List UInt8)) = false := beq_eq_false_iff_ne.mpr he
     all_goals clear he HS HU hgj
     case same1 =>
      exact lf30
     case same2 =>
      exact lf30
     case same3 =>
      exact lf30
     all_goals
      go_wp2
      go_quiet (fail)
      go_wp2
      go_quiet (fail)
      go_wp2
      have HCr := Aside0.mk (Kd.C_below HC.out HB2.out)
      have HBr := Aside0.mk (below2 HB.out HB2.out)
      obtain ⟨l1, hl1⟩ : ∃ l, l = out.take k := ⟨_, rfl⟩
      have HL1 := Aside0.mk hl1
      have hkc : (k ≤ c) = True := eq_true (by have := HCC.out; omega)
      obtain ⟨A2, l2, c2, hl2, hcut2, hC2, hc2⟩ := cut_dropC (P := Tryz.prog) HCr.out 22 9 .i64 Tryz.underlying22 hi0 hz1 c k hk2 HCC.out
      have HC2 := Aside0.mk hC2
      have HL2 := Aside0.mk hl2
      have HC1 := Aside0.mk (C_takeN HCr.out hk2 hl1)
      have HLn := Aside0.mk (show k ≤ 1000000 ∧ l1.length ≤ 1000000 ∧ l2.length ≤ 1000000 from by have := HN.out; have := HL.out; rw [hl1, hl2, List.length_take, List.length_drop]; omega)
      clear hl1 hl2 hC2 hc2
      go_wp2_with fail
      refine start_ (n := 15) (S := fun w' => w'.cell? (adx.add i) = some (.string x)) (ds := [13]) #[false, false, false, false, false, false, false, false, false, false, false, false, false, false, false] zz34 rfl rfl (hx) (fun hHeld => ?_)
      refine pure_ (i := 0) (N := some 51) (v := ?_) (a' := ?_) #[true, false, false, false, false, false, false, false, false, false, false, false, false, false, false] rfl rfl zz34 (fun _ _ _ h => h) (Or.inl ⟨by rfl, ?_⟩) ?_ ?_
      rotate_left
      ·intro w'
       go_simp
       with_reducible rfl
      rotate_left
      ·simp only [Act.put, setIfInBounds_toArray, set_cons_zero, set_cons_succ, i64_w, i32_w]
       rfl
      refine pure_ (i := 1) (N := some 52) (v := ?_) (a' := ?_) #[true, true, false, false, false, false, false, false, false, false, false, false, false, false, false] rfl rfl zz34 (fun _ _ _ h => h) (Or.inl ⟨by rfl, ?_⟩) ?_ ?_
      rotate_left
      ·intro w'
       go_simp
       with_reducible rfl
      rotate_left
      ·simp only [Act.put, setIfInBounds_toArray, set_cons_zero, set_cons_succ, i64_w, i32_w]
       rfl
      refine pure_ (i := 2) (N := some 53) (v := ?_) (a' := ?_) #[true, true, true, false, false, false, false, false, false, false, false, false, false, false, false] rfl rfl zz34 (fun _ _ _ h => h) (Or.inl ⟨by rfl, ?_⟩) ?_ ?_
      rotate_left
      ·intro w'
       go_simp
       with_reducible rfl
      rotate_left
      ·simp only [Act.put, setIfInBounds_toArray, set_cons_zero, set_cons_succ, i64_w, i32_w]
       rfl
      refine pure_ (i := 4) (N := some 55) (v := ?_) (a' := ?_) #[true, true, true, false, true, false, false, false, false, false, false, false, false, false, false] rfl rfl zz34 (fun _ _ _ h => h) (Or.inl ⟨by rfl, ?_⟩) ?_ ?_
      rotate_left
      ·intro w'
       go_simp
       with_reducible rfl
      rotate_left
      ·simp only [Act.put, setIfInBounds_toArray, set_cons_zero, set_cons_succ, i64_w, i32_w]
       rfl
      refine pure_ (i := 5) (N := some 56) (v := ?_) (a' := ?_) #[true, true, true, false, true, true, false, false, false, false, false, false, false, false, false] rfl rfl zz34 (fun _ _ _ h => h) (Or.inl ⟨by rfl, ?_⟩) ?_ ?_
      rotate_left
      ·intro w'
       go_simp
       with_reducible rfl
      rotate_left
      ·simp only [Act.put, setIfInBounds_toArray, set_cons_zero, set_cons_succ, i64_w, i32_w]
       rfl
      refine pure_ (i := 6) (N := some 57) (v := ?_) (a' := ?_) #[true, true, true, false, true, true, true, false, false, false, false, false, false, false, false] rfl rfl zz34 (fun _ _ _ h => h) (Or.inl ⟨by rfl, ?_⟩) ?_ ?_
      rotate_left
      ·intro w'
       go_simp
       with_reducible rfl
      rotate_left
      ·simp only [Act.put, setIfInBounds_toArray, set_cons_zero, set_cons_succ, i64_w, i32_w]
       rfl
      refine pure_ (i := 10) (N := some 61) (v := ?_) (a' := ?_) #[true, true, true, false, true, true, true, false, false, false, true, false, false, false, false] rfl rfl zz34 (fun _ _ _ h => h) (Or.inl ⟨by rfl, ?_⟩) ?_ ?_
      rotate_left
      ·intro w'
       go_simp
       with_reducible rfl
      rotate_left
      ·simp only [Act.put, setIfInBounds_toArray, set_cons_zero, set_cons_succ, i64_w, i32_w]
       rfl
      refine pure_ (i := 11) (N := some 62) (v := ?_) (a' := ?_) #[true, true, true, false, true, true, true, false, false, false, true, true, false, false, false] rfl rfl zz34 (fun _ _ _ h => h) (Or.inl ⟨by rfl, ?_⟩) ?_ ?_
      rotate_left
      ·intro w'
       go_simp
       with_reducible rfl
      rotate_left
      ·simp only [Act.put, setIfInBounds_toArray, set_cons_zero, set_cons_succ, i64_w, i32_w]
       rfl
      refine pure_ (i := 12) (N := some 63) (v := ?_) (a' := ?_) #[true, true, true, false, true, true, true, false, false, false, true, true, true, false, false] rfl rfl zz34 (fun _ _ _ h => h) (Or.inl ⟨by rfl, ?_⟩) ?_ ?_
      rotate_left
      ·intro w'
       go_simp
       with_reducible rfl
      rotate_left
      ·simp only [Act.put, setIfInBounds_toArray, set_cons_zero, set_cons_succ, i64_w, i32_w]
       rfl
      refine take_ (i := 7) (N := some 58) (v := ?_) (a' := ?_) #[true, true, true, false, true, true, true, true, false, false, true, true, true, false, false] rfl rfl zz34 (fun _ _ _ h => h) (Or.inl ⟨by rfl, ?_⟩) hHeld ?_ ?_
      rotate_left
      ·intro w' s0
       go_simp
       with_reducible rfl
      rotate_left
      ·simp only [Act.put, setIfInBounds_toArray, set_cons_zero, set_cons_succ, i64_w, i32_w]
       rfl
      refine join_ (σ := Value × Value) 3 #[true, true, true, true, true, true, true, true, true, false, true, true, true, false, false] (fun s => [(54, s.1), (59, s.2)]) (fun s w' => Kd.string.R 9 w' wr.heap.size (fun _ => True) s.1 l1 ∧ Kd.string.R 9 w' wr.heap.size (fun _ => True) s.2 [x] ∧ Below wr.heap.size wr w') ?_ ?_
      rotate_left
      ·intro hCont
       refine two_ (i := 3) (j := 8) (Ni := some 54) (Nj := some 59) #[true, true, true, true, true, true, true, true, false, false, true, true, true, false, false] #[true, true, true, false, true, true, true, true, true, false, true, true, true, false, false] rfl rfl rfl rfl zz34 (by decide) (by decide) (fun K hK => ?_) (fun K hK => ?_)
       ·skip
        refine Kd.R_append_rows_step Kd.string (w0 := wr) wr.heap.size (by rfl) (.const (.slice none 0 0)) (.tmp 53) 22 9 (.string ⟨#[]⟩) 16 rfl Tryz.underlying22 info9 rfl (by decide) (by omega) (.slice none 0 0) ([] : List ByteArray) l1 _ _ _ (fun _ => True) (fun _ => False) rfl rfl (Kd.R_nil _ _ _ _ _) (Kd.C_below HC1.out zz54) (fun _ _ h => h) (fun _ h => h.elim) (fun _ _ => trivial) zz54 (below_size zz54) (by have := HLn.out; simp only [List.length_nil]; omega) ?_
        intro v5 w5 ho5 hb5 hg5 hat5
        have HO5 := Aside0.mk ho5
        have HB5 := Aside0.mk hb5
        refine hK.out _ _ ((hb5.cell (World.block_lt_of_cell? _ _ hx)).trans hx) (fun hHeld => ?_)
        clear hK K
        refine norm_ (a' := ?_) ?_ ?_
        rotate_left
        ·show Act.put _ (some 54) _ = _
         simp only [Act.put, setIfInBounds_toArray, set_cons_zero, set_cons_succ, i64_w, i32_w]
         rfl
        refine one_ (i := 8) (N := some 59) #[true, true, true, true, true, true, true, true, true, false, true, true, true, false, false] rfl rfl zz34 (by decide) (fun K hK => ?_)
        refine Kd.R_lit_step Kd.string (w0 := wr) wr.heap.size 9 (by rfl) (N := 59) (by rfl) (xs := [x]) (inner := [.string x]) (ok := fun _ => True) (okp := fun _ => False) ?hr (Kd.reps_scalar (enc := Value.string) [x]) (fun _ h => h.elim) trivial (by (with_reducible repeat (first | apply pw_below_drewN | apply below_drew1 | apply below_alloc)); exact HB5.out) (below_size (by (with_reducible repeat (first | apply pw_below_drewN | apply below_drew1 | apply below_alloc)); exact HB5.out)) (by simp) ?_
        (case hr => exact zz29)
        intro v8 w8 ho8 hb8 hg8 hat8
        have HO8 := Aside0.mk ho8
        have HB8 := Aside0.mk hb8
        refine hK.out _ _ ((hb8.cell (World.block_lt_of_cell? _ _ hx)).trans hx) (fun hHeld => ?_)
        clear hK K
        refine norm_ (a' := ?_) ?_ ?_
        rotate_left
        ·show Act.put _ (some 59) _ = _
         simp only [Act.put, setIfInBounds_toArray, set_cons_zero, set_cons_succ, i64_w, i32_w]
         rfl
        exact norm_ (by first | (simp only [putAll, Act.put, setIfInBounds_toArray, set_cons_zero, set_cons_succ]; done) | rfl) (hCont (v5, v8) _ ⟨Kd.R_grown HO5.out hg8 (fun _ _ => by simp), ho8, hb8⟩)
       skip
       refine Kd.R_lit_step Kd.string (w0 := wr) wr.heap.size 9 (by rfl) (N := 59) (by rfl) (xs := [x]) (inner := [.string x]) (ok := fun _ => True) (okp := fun _ => False) ?hr (Kd.reps_scalar (enc := Value.string) [x]) (fun _ h => h.elim) trivial zz54 (below_size zz54) (by simp) ?_
       (case hr => exact zz29)
       intro v8 w8 ho8 hb8 hg8 hat8
       have HO8 := Aside0.mk ho8
       have HB8 := Aside0.mk hb8
       refine hK.out _ _ ((hb8.cell (World.block_lt_of_cell? _ _ hx)).trans hx) (fun hHeld => ?_)
       clear hK K
       refine norm_ (a' := ?_) ?_ ?_
       rotate_left
       ·show Act.put _ (some 59) _ = _
        simp only [Act.put, setIfInBounds_toArray, set_cons_zero, set_cons_succ, i64_w, i32_w]
        rfl
       refine one_ (i := 3) (N := some 54) #[true, true, true, true, true, true, true, true, true, false, true, true, true, false, false] rfl rfl zz34 (by decide) (fun K hK => ?_)
       refine Kd.R_append_rows_step Kd.string (w0 := wr) wr.heap.size (by rfl) (.const (.slice none 0 0)) (.tmp 53) 22 9 (.string ⟨#[]⟩) 16 rfl Tryz.underlying22 info9 rfl (by decide) (by omega) (.slice none 0 0) ([] : List ByteArray) l1 _ _ _ (fun _ => True) (fun _ => False) rfl rfl (Kd.R_nil _ _ _ _ _) (Kd.C_below HC1.out (by (with_reducible repeat (first | apply pw_below_drewN | apply below_drew1 | apply below_alloc)); exact HB8.out)) (fun _ _ h => h) (fun _ h => h.elim) (fun _ _ => trivial) (by (with_reducible repeat (first | apply pw_below_drewN | apply below_drew1 | apply below_alloc)); exact HB8.out) (below_size (by (with_reducible repeat (first | apply pw_below_drewN | apply below_drew1 | apply below_alloc)); exact HB8.out)) (by have := HLn.out; simp only [List.length_nil]; omega) ?_
       intro v5 w5 ho5 hb5 hg5 hat5
       have HO5 := Aside0.mk ho5
       have HB5 := Aside0.mk hb5
       refine hK.out _ _ ((hb5.cell (World.block_lt_of_cell? _ _ hx)).trans hx) (fun hHeld => ?_)
       clear hK K
       refine norm_ (a' := ?_) ?_ ?_
       rotate_left
       ·show Act.put _ (some 54) _ = _
        simp only [Act.put, setIfInBounds_toArray, set_cons_zero, set_cons_succ, i64_w, i32_w]
        rfl
       exact norm_ (by first | (simp only [putAll, Act.put, setIfInBounds_toArray, set_cons_zero, set_cons_succ]; done) | rfl) (hCont (v5, v8) _ ⟨ho5, Kd.R_grown HO8.out hg5 (fun _ _ => by simp [Value.ownBlock]), hb5⟩)
      rintro ⟨v54, v59⟩ w9 ⟨hR1, hR2, hB9⟩
      obtain ⟨A5, c5, rfl, hl5, hC5⟩ := Kd.R_reads hR2
      have HR1 := Aside0.mk hR1
      have HB9 := Aside0.mk hB9
      have HC5 := Aside0.mk hC5
      have hHeld : w9.cell? (adx.add i) = some (.string x) := (hB9.cell (World.block_lt_of_cell? _ _ hx)).trans hx
      refine norm_ (a' := ?_) ?_ ?_
      rotate_left
      ·simp only [putAll, Act.put, setIfInBounds_toArray, set_cons_zero, set_cons_succ]
       rfl
      refine one_ (i := 9) (N := some 60) #[true, true, true, true, true, true, true, true, true, true, true, true, true, false, false] rfl rfl zz34 (by decide) (fun K hK => ?_)
      refine Kd.R_append_rows_step Kd.string (w0 := wr) wr.heap.size (by rfl) (.tmp 54) (.tmp 59) 22 9 (.string ⟨#[]⟩) 16 rfl Tryz.underlying22 info9 rfl (by decide) (by omega) v54 l1 [x] A5 1 c5 (fun _ => True) (fun _ => False) rfl rfl HR1.out HC5.out (fun _ _ h => h) (fun _ h => h.elim) (fun _ _ => trivial) HB9.out (below_size HB9.out) (by have := HLn.out; omega) ?_
      intro v10 w10 ho10 hb10 hg10 hat10
      have HO10 := Aside0.mk ho10
      have HB10 := Aside0.mk hb10
      refine hK.out _ _ ((hb10.cell (World.block_lt_of_cell? _ _ hx)).trans hx) (fun hHeld => ?_)
      clear hK K
      refine norm_ (a' := ?_) ?_ ?_
      rotate_left
      ·show Act.put _ (some 60) _ = _
       simp only [Act.put, setIfInBounds_toArray, set_cons_zero, set_cons_succ, i64_w, i32_w]
       rfl
      refine last_ (i := 13) (N := some 64) #[true, true, true, true, true, true, true, true, true, true, true, true, true, true, false] rfl rfl zz34 (by decide) (fun K hK => ?_)
      refine Kd.R_append_rows_step Kd.string (w0 := wr) wr.heap.size (by rfl) (.tmp 60) (.tmp 63) 22 9 (.string ⟨#[]⟩) 16 rfl Tryz.underlying22 info9 rfl (by decide) (by omega) v10 (l1 ++ [x]) l2 A2 l2.length c2 (fun _ => True) (fun _ => False) rfl rfl HO10.out (Kd.C_below HC2.out HB10.out) (fun _ _ h => h) (fun _ h => h.elim) (fun _ _ => trivial) HB10.out (below_size HB10.out) (by have := HLn.out; simp only [List.length_append, List.length_cons, List.length_nil]; omega) ?_
      intro v14 w14 ho14 hb14 hg14 hat14
      have HO14 := Aside0.mk ho14
      have HB14 := Aside0.mk hb14
      refine hK.out _ _ ?_
      clear hK K
      refine norm_ (a' := ?_) ?_ ?_
      rotate_left
      ·show Act.put _ (some 64) _ = _
       simp only [Act.put, setIfInBounds_toArray, set_cons_zero, set_cons_succ, i64_w, i32_w]
       rfl
      refine pure_ (i := 14) (N := some 3) (v := ?_) (a' := ?_) #[true, true, true, true, true, true, true, true, true, true, true, true, true, true, true] rfl rfl zz34 (fun _ _ _ h => h) (Or.inl ⟨by rfl, ?_⟩) ?_ ?_
      rotate_left
      ·intro w'
       go_simp
       with_reducible rfl
      rotate_left
      ·simp only [Act.put, setIfInBounds_toArray, set_cons_zero, set_cons_succ, i64_w, i32_w]
       rfl
      refine done_ zz34 ?_
      clear hHeld hcut2
      go_wp2
      go_roundg k'
      case measure => omega
      case rel =>
       have e1 : insAt out k x = l1 ++ [x] ++ l2 := by unfold insAt; rw [HL1.out, HL2.out]
       have e2 := insAt_len out k x
       exact ⟨i + 1, insAt out k x, hlt, congrArg (Value.int .i64) (by have := HL.out; unfold wrap64; omega), by omega, ⟨by rw [fold_next grpS [] l0 i hlt, ← HF.out, HX.out, HG.out]⟩, ⟨by have := HN.out; omega⟩, ⟨by rw [e1]; exact Kd.R_lower HO14.out (below_size HBr.out)⟩, ⟨below2 HBr.out HB14.out⟩⟩
   obtain rfl : i = l0.length := by omega
   exact lf30
 cases h
end Go.Proofs.YtaekklpphlcngaaGreatDoor.Q
