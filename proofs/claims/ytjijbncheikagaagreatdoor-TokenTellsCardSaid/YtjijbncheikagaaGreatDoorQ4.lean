-- Written by hookprint.py (wip/) of this session: the kit's print with hand-proved functions beside it. Not trusted: Lean checks it.
import Derived.Test.YtjijbncheikagaaGreatDoorQ0
import Derived.Test.YtjijbncheikagaaGreatDoorQ2
import Derived.Test.YtjijbncheikagaaGreatDoorQ3
namespace Go.Proofs.YtjijbncheikagaaGreatDoor.Q
open List (setIfInBounds_toArray set_cons_zero set_cons_succ)
open Go.RowKit Go.Lib Go.Proofs.YtjijbncheikagaaGreatDoorX Go.Proofs.YtjijbncheikagaaGreatDoorW.PrintWords Go.Proofs.YtjijbncheikagaaGreatDoorW.PrintLast Go.Proofs.YtjijbncheikagaaGreatDoorW.PrintMore
set_option linter.unusedVariables false
set_option linter.unusedSimpArgs false
def digN (c : Nat) : Option Nat := if 48 ≤ c ∧ c ≤ 57 then some (c - 48) else if 97 ≤ c ∧ c ≤ 122 then some (c - 87) else if 65 ≤ c ∧ c ≤ 90 then some (c - 55) else none
def parseG (B : Nat) : Nat → List UInt8 → Option Nat
  | acc, [] => some acc
  | acc, c :: l => match digN c.toNat with | none => none | some d => if B ≤ d then none else if 4294967295 < acc * B + d then none else parseG B (acc * B + d) l
def parseN (B : Nat) (l : List UInt8) : Option Nat := if l = [] then none else parseG B 0 l
theorem dig_cases : ∀ c : Fin 256, (digN c.val = none → (c.val < 48 ∨ 57 < c.val) ∧ ((c.val ||| 32) < 97 ∨ 122 < (c.val ||| 32))) ∧ (∀ d, digN c.val = some d → (48 ≤ c.val ∧ c.val ≤ 57 ∧ c.val = d + 48) ∨ (57 < c.val ∧ c.val ≠ 95 ∧ 97 ≤ (c.val ||| 32) ∧ (c.val ||| 32) ≤ 122 ∧ (c.val ||| 32) = d + 87)) := by
  intro c
  have h : ∀ c : Fin 256, (digN c.val = none → (c.val < 48 ∨ 57 < c.val) ∧ ((c.val ||| 32) < 97 ∨ 122 < (c.val ||| 32))) ∧ (∀ d : Fin 256, digN c.val = some d.val → (48 ≤ c.val ∧ c.val ≤ 57 ∧ c.val = d.val + 48) ∨ (57 < c.val ∧ c.val ≠ 95 ∧ 97 ≤ (c.val ||| 32) ∧ (c.val ||| 32) ≤ 122 ∧ (c.val ||| 32) = d.val + 87)) := by decide +kernel
  refine ⟨(h c).1, fun d hd => ?_⟩
  have hlt : d < 256 := by
    have := c.isLt
    unfold digN at hd
    split at hd
    · cases hd; omega
    · split at hd
      · cases hd; omega
      · split at hd
        · cases hd; omega
        · cases hd
  exact (h c).2 ⟨d, hlt⟩ hd
theorem low_eq : ∀ c : Fin 256, Go.bits .or .u8 (c.val : Int) 32 = ((c.val ||| 32 : Nat) : Int) := by decide +kernel
def PuRes (te : TypeId) (o : Option Nat) (e : Ending) : Prop := match o with | some v => e = .returned (.tuple #[.int .u64 v, .nilIface]) | none => ∃ (v c : Int), e = .returned (.tuple #[.int .u64 v, .iface te (.int .i64 c)]) ∧ (c = 1 ∨ c = 2)
theorem low_calls (a : Int) (w : World) : Calls Tryz.prog 93 #[.int .u8 a] w fun e w' => e = .returned (.int .u8 (Go.bits .or .u8 a 32)) ∧ w' = w := by
  go_enter Tryz.func93, Tryz.ntmps93
  go_wp2
  go_ret
  exact ⟨rfl, rfl⟩
set_option maxHeartbeats 4000000 in
set_option maxRecDepth 100000 in
theorem strconv_ParseUint_89.hof10 (s : ByteArray) (w : World) (hs : s.size ≤ 1000000000000) :
    Calls Tryz.prog 89 #[.string s, .int .i64 10, .int .i64 32] w fun e w' => PuRes 129 (parseN 10 s.data.toList) e ∧ Below w.heap.size w w' := by
  have HS := Aside0.mk hs
  clear hs
  by_cases he : s.toList = []
  · have hE1 : s.toList.isEmpty = true := by rw [he]; rfl
    have hE3 : (s.toList == []) = true := by rw [he]; rfl
    have hp : parseN 10 s.data.toList = none := by rw [ByteArray.toList_eq] at he; rw [he]; rfl
    rw [hp]
    clear hp
    go_enter Tryz.func89, Tryz.ntmps89
    go_wp2
    go_ret2
    exact ⟨⟨0, 2, rfl, .inr rfl⟩, Below.refl _ _⟩
  · have hE1 : s.toList.isEmpty = false := by simpa using he
    have hE3 : (s.toList == []) = false := beq_eq_false_iff_ne.2 he
    have hne : s.data.toList ≠ [] := by rw [← ByteArray.toList_eq]; exact he
    have hp : parseN 10 s.data.toList = parseG 10 0 s.data.toList := by unfold parseN; rw [if_neg hne]
    rw [hp]
    have kc := Lib.run_convert_string_bytes (P := Tryz.prog) w 9 70 5 s Tryz.underlying9 Tryz.underlying70 Tryz.underlying5
    clear hp hne
    obtain ⟨w1, hw1⟩ : ∃ w1, Lib.bytesWorld w 5 s = w1 := ⟨_, rfl⟩
    have HB0 := Aside0.mk (show Below w.heap.size w w1 from by rw [← hw1]; exact ⟨rfl, rfl, rfl, by rw [Lib.bytesWorld_size]; omega, fun k hk => Lib.bytesWorld_at_old w _ s k hk⟩)
    have hB : ∀ j, j < s.size → w1.cell? ⟨w.heap.size, j, none⟩ = some (.int .u8 (s.data.toList.getD j 0).toNat) := fun j hj => by rw [← hw1]; exact Lib.bytesWorld_cell w _ s j hj
    rw [hw1] at kc
    clear hw1 he
    obtain ⟨bs, hL⟩ : ∃ bs, bs = s.data.toList := ⟨_, rfl⟩
    have hLn : bs.length = s.size := by rw [hL]; exact Array.length_toList
    rw [← hL] at hB ⊢
    clear hL
    have HBB := Aside0.mk hB
    clear hB
    go_enter Tryz.func89, Tryz.ntmps89
    go_wp2
    clear kc hE1 hE3
    have hsz := HS.out
    go_loop [12, 13, 101] (fun vu vn vi => ∃ (k acc : Nat) (a : Int), vu = .bool false ∧ vn = .int .u64 a ∧ vi = .int .i64 k ∧ k ≤ s.size ∧ Aside0 (a = (acc : Int) ∧ acc ≤ 4294967295 ∧ parseG 10 acc (bs.drop k) = parseG 10 0 bs)) (fun _ _ vi => s.size - (RowKit.intOf vi).toNat)
    case atStart => exact ⟨0, 0, 0, rfl, rfl, rfl, by omega, ⟨rfl, by omega, by rw [List.drop_zero]⟩⟩
    case round =>
      obtain ⟨k, acc, a, rfl, rfl, rfl, hk, hh⟩ := hrel
      obtain ⟨ha, hacc, hp⟩ := hh.out
      have a0 : 0 ≤ a := by omega
      have a1 : a ≤ 4294967295 := by omega
      by_cases hkn : k < s.size
      · have hc := HBB.out k hkn
        rw [List.drop_eq_getElem_cons (show k < bs.length by omega)] at hp
        have hget : bs.getD k 0 = bs[k]'(by omega) := by simp [List.getD, List.getElem?_eq_getElem (show k < bs.length by omega)]
        rw [hget] at hc
        generalize bs[k]'(by omega) = c at hc hp
        have hc256 : c.toNat < 256 := c.toNat_lt
        have hdc := dig_cases ⟨c.toNat, hc256⟩
        have hlow := low_eq ⟨c.toNat, hc256⟩
        simp only at hdc hlow
        have hL0 : c.toNat ||| 32 < 256 := Nat.or_lt_two_pow (n := 8) hc256 (by decide)
        obtain ⟨L, hL⟩ : ∃ L : Int, ((c.toNat ||| 32 : Nat) : Int) = L := ⟨_, rfl⟩
        obtain ⟨ci, hci⟩ : ∃ ci : Int, (c.toNat : Int) = ci := ⟨_, rfl⟩
        rw [hL, hci] at hlow
        rw [hci] at hc
        have hci0 : 0 ≤ ci := by omega
        have hci1 : ci ≤ 255 := by omega
        have hLa : 0 ≤ L := by omega
        have hLb : L ≤ 255 := by omega
        clear hget
        cases hd : digN c.toNat with
        | none =>
          obtain ⟨g1, g2⟩ := hdc.1 hd
          have hF : parseG 10 acc (c :: bs.drop (k + 1)) = none := by rw [parseG, hd]
          rw [hF] at hp
          have HP2 := Aside0.mk hp
          have g1' : ci < 48 ∨ 57 < ci := by omega
          have g2' : L < 97 ∨ 122 < L := by omega
          clear hF hd hp hdc hh g1 g2 hci hL hL0 hc256 ha hacc
          rcases g1' with g1 | g1 <;> rcases g2' with g2 | g2 <;> by_cases h95 : ci = 95
          all_goals first | (exfalso; omega) | (subst h95; go_wp2_with (go_at_call 93; refine (low_calls _ _).mono ?_; rintro e w' ⟨rfl, rfl⟩)) | (go_wp2_with (go_at_call 93; refine (low_calls _ _).mono ?_; rintro e w' ⟨rfl, rfl⟩))
          all_goals go_ret2
          all_goals exact ⟨by rw [← HP2.out]; exact ⟨0, 2, rfl, .inr rfl⟩, HB0.out⟩
        | some d =>
        rcases hdc.2 d hd with ⟨h1, h2, h3⟩ | ⟨h1, h2, h3, h4, h5⟩
        · -- a digit
          have hd0 : 48 ≤ ci := by omega
          have hd1 : ci ≤ 57 := by omega
          by_cases hov : 4294967295 < acc * 10 + d
          · have hF : parseG 10 acc (c :: bs.drop (k + 1)) = none := by
              rw [parseG, hd]; simp only
              rw [if_neg (by omega), if_pos hov]
            rw [hF] at hp
            have HP2 := Aside0.mk hp
            have iov : 4294967295 < a * 10 + (ci - 48) := by omega
            clear hF hd hp h1 h2 h3 hdc hh hov hci hL hlow hLa hLb hL0 hc256 ha hacc
            go_wp2
            go_ret2
            exact ⟨by rw [← HP2.out]; exact ⟨_, 1, rfl, .inl rfl⟩, HB0.out⟩
          · have hF : parseG 10 acc (c :: bs.drop (k + 1)) = parseG 10 (acc * 10 + d) (bs.drop (k + 1)) := by
              rw [parseG, hd]; simp only
              rw [if_neg (by omega), if_neg hov]
            rw [hF] at hp
            have HN := Aside0.mk (show a * 10 + (ci - 48) = ((acc * 10 + d : Nat) : Int) ∧ acc * 10 + d ≤ 4294967295 ∧ parseG 10 (acc * 10 + d) (bs.drop (k + 1)) = parseG 10 0 bs from ⟨by omega, by omega, hp⟩)
            have iov : a * 10 + (ci - 48) ≤ 4294967295 := by omega
            clear hF hd hp h1 h2 h3 hdc hh hov hci hL hlow hLa hLb hL0 hc256 ha hacc
            go_wp2
            refine ⟨⟨k + 1, acc * 10 + d, a * 10 + (ci - 48), rfl, (by first | rfl | (congr 1; omega)), (by first | rfl | (congr 1; omega)), by omega, HN⟩, by simp [RowKit.intOf]; omega⟩
        · -- a letter
          have hL97 : 97 ≤ L := by omega
          have hL122 : L ≤ 122 := by omega
          have h57 : 57 < ci := by omega
          have h95 : ¬ ci = 95 := by omega
          have hLd5 : L = d + 87 := by omega
          have hge : (a : Int) * 10 ≥ 0 := by omega
          have hF : parseG 10 acc (c :: bs.drop (k + 1)) = none := by
            rw [parseG, hd]; simp only
            rw [if_pos (by have := h3; have := h5; omega)]
          rw [hF] at hp
          have hLd : 10 ≤ L - 97 + 10 := by omega
          have HP2 := Aside0.mk hp
          clear hF hd hp h1 h2 h3 h4 h5 hdc hh hLd5 hci hL hL0 hc256 ha hacc
          go_wp2_with (go_at_call 93; refine (low_calls _ _).mono ?_; rintro e w' ⟨rfl, rfl⟩)
          all_goals go_ret2
          all_goals exact ⟨by rw [← HP2.out]; exact ⟨0, 2, rfl, .inr rfl⟩, HB0.out⟩
      · have hkk : k = s.size := by omega
        subst hkk
        rw [List.drop_eq_nil_of_le (by omega), parseG] at hp
        have HP2 := Aside0.mk hp
        subst ha
        clear hacc hp hh
        go_wp2
        go_ret2
        exact ⟨by rw [← HP2.out]; rfl, HB0.out⟩
set_option maxHeartbeats 4000000 in
set_option maxRecDepth 100000 in
theorem strconv_ParseUint_89.hof16 (s : ByteArray) (w : World) (hs : s.size ≤ 1000000000000) :
    Calls Tryz.prog 89 #[.string s, .int .i64 16, .int .i64 32] w fun e w' => PuRes 129 (parseN 16 s.data.toList) e ∧ Below w.heap.size w w' := by
  have HS := Aside0.mk hs
  clear hs
  by_cases he : s.toList = []
  · have hE1 : s.toList.isEmpty = true := by rw [he]; rfl
    have hE3 : (s.toList == []) = true := by rw [he]; rfl
    have hp : parseN 16 s.data.toList = none := by rw [ByteArray.toList_eq] at he; rw [he]; rfl
    rw [hp]
    clear hp
    go_enter Tryz.func89, Tryz.ntmps89
    go_wp2
    go_ret2
    exact ⟨⟨0, 2, rfl, .inr rfl⟩, Below.refl _ _⟩
  · have hE1 : s.toList.isEmpty = false := by simpa using he
    have hE3 : (s.toList == []) = false := beq_eq_false_iff_ne.2 he
    have hne : s.data.toList ≠ [] := by rw [← ByteArray.toList_eq]; exact he
    have hp : parseN 16 s.data.toList = parseG 16 0 s.data.toList := by unfold parseN; rw [if_neg hne]
    rw [hp]
    have kc := Lib.run_convert_string_bytes (P := Tryz.prog) w 9 70 5 s Tryz.underlying9 Tryz.underlying70 Tryz.underlying5
    clear hp hne
    obtain ⟨w1, hw1⟩ : ∃ w1, Lib.bytesWorld w 5 s = w1 := ⟨_, rfl⟩
    have HB0 := Aside0.mk (show Below w.heap.size w w1 from by rw [← hw1]; exact ⟨rfl, rfl, rfl, by rw [Lib.bytesWorld_size]; omega, fun k hk => Lib.bytesWorld_at_old w _ s k hk⟩)
    have hB : ∀ j, j < s.size → w1.cell? ⟨w.heap.size, j, none⟩ = some (.int .u8 (s.data.toList.getD j 0).toNat) := fun j hj => by rw [← hw1]; exact Lib.bytesWorld_cell w _ s j hj
    rw [hw1] at kc
    clear hw1 he
    obtain ⟨bs, hL⟩ : ∃ bs, bs = s.data.toList := ⟨_, rfl⟩
    have hLn : bs.length = s.size := by rw [hL]; exact Array.length_toList
    rw [← hL] at hB ⊢
    clear hL
    have HBB := Aside0.mk hB
    clear hB
    go_enter Tryz.func89, Tryz.ntmps89
    go_wp2
    clear kc hE1 hE3
    have hsz := HS.out
    go_loop [12, 13, 101] (fun vu vn vi => ∃ (k acc : Nat) (a : Int), vu = .bool false ∧ vn = .int .u64 a ∧ vi = .int .i64 k ∧ k ≤ s.size ∧ Aside0 (a = (acc : Int) ∧ acc ≤ 4294967295 ∧ parseG 16 acc (bs.drop k) = parseG 16 0 bs)) (fun _ _ vi => s.size - (RowKit.intOf vi).toNat)
    case atStart => exact ⟨0, 0, 0, rfl, rfl, rfl, by omega, ⟨rfl, by omega, by rw [List.drop_zero]⟩⟩
    case round =>
      obtain ⟨k, acc, a, rfl, rfl, rfl, hk, hh⟩ := hrel
      obtain ⟨ha, hacc, hp⟩ := hh.out
      have a0 : 0 ≤ a := by omega
      have a1 : a ≤ 4294967295 := by omega
      by_cases hkn : k < s.size
      · have hc := HBB.out k hkn
        rw [List.drop_eq_getElem_cons (show k < bs.length by omega)] at hp
        have hget : bs.getD k 0 = bs[k]'(by omega) := by simp [List.getD, List.getElem?_eq_getElem (show k < bs.length by omega)]
        rw [hget] at hc
        generalize bs[k]'(by omega) = c at hc hp
        have hc256 : c.toNat < 256 := c.toNat_lt
        have hdc := dig_cases ⟨c.toNat, hc256⟩
        have hlow := low_eq ⟨c.toNat, hc256⟩
        simp only at hdc hlow
        have hL0 : c.toNat ||| 32 < 256 := Nat.or_lt_two_pow (n := 8) hc256 (by decide)
        obtain ⟨L, hL⟩ : ∃ L : Int, ((c.toNat ||| 32 : Nat) : Int) = L := ⟨_, rfl⟩
        obtain ⟨ci, hci⟩ : ∃ ci : Int, (c.toNat : Int) = ci := ⟨_, rfl⟩
        rw [hL, hci] at hlow
        rw [hci] at hc
        have hci0 : 0 ≤ ci := by omega
        have hci1 : ci ≤ 255 := by omega
        have hLa : 0 ≤ L := by omega
        have hLb : L ≤ 255 := by omega
        clear hget
        cases hd : digN c.toNat with
        | none =>
          obtain ⟨g1, g2⟩ := hdc.1 hd
          have hF : parseG 16 acc (c :: bs.drop (k + 1)) = none := by rw [parseG, hd]
          rw [hF] at hp
          have HP2 := Aside0.mk hp
          have g1' : ci < 48 ∨ 57 < ci := by omega
          have g2' : L < 97 ∨ 122 < L := by omega
          clear hF hd hp hdc hh g1 g2 hci hL hL0 hc256 ha hacc
          rcases g1' with g1 | g1 <;> rcases g2' with g2 | g2 <;> by_cases h95 : ci = 95
          all_goals first | (exfalso; omega) | (subst h95; go_wp2_with (go_at_call 93; refine (low_calls _ _).mono ?_; rintro e w' ⟨rfl, rfl⟩)) | (go_wp2_with (go_at_call 93; refine (low_calls _ _).mono ?_; rintro e w' ⟨rfl, rfl⟩))
          all_goals go_ret2
          all_goals exact ⟨by rw [← HP2.out]; exact ⟨0, 2, rfl, .inr rfl⟩, HB0.out⟩
        | some d =>
        rcases hdc.2 d hd with ⟨h1, h2, h3⟩ | ⟨h1, h2, h3, h4, h5⟩
        · -- a digit
          have hd0 : 48 ≤ ci := by omega
          have hd1 : ci ≤ 57 := by omega
          by_cases hov : 4294967295 < acc * 16 + d
          · have hF : parseG 16 acc (c :: bs.drop (k + 1)) = none := by
              rw [parseG, hd]; simp only
              rw [if_neg (by omega), if_pos hov]
            rw [hF] at hp
            have HP2 := Aside0.mk hp
            have iov : 4294967295 < a * 16 + (ci - 48) := by omega
            clear hF hd hp h1 h2 h3 hdc hh hov hci hL hlow hLa hLb hL0 hc256 ha hacc
            go_wp2
            go_ret2
            exact ⟨by rw [← HP2.out]; exact ⟨_, 1, rfl, .inl rfl⟩, HB0.out⟩
          · have hF : parseG 16 acc (c :: bs.drop (k + 1)) = parseG 16 (acc * 16 + d) (bs.drop (k + 1)) := by
              rw [parseG, hd]; simp only
              rw [if_neg (by omega), if_neg hov]
            rw [hF] at hp
            have HN := Aside0.mk (show a * 16 + (ci - 48) = ((acc * 16 + d : Nat) : Int) ∧ acc * 16 + d ≤ 4294967295 ∧ parseG 16 (acc * 16 + d) (bs.drop (k + 1)) = parseG 16 0 bs from ⟨by omega, by omega, hp⟩)
            have iov : a * 16 + (ci - 48) ≤ 4294967295 := by omega
            clear hF hd hp h1 h2 h3 hdc hh hov hci hL hlow hLa hLb hL0 hc256 ha hacc
            go_wp2
            refine ⟨⟨k + 1, acc * 16 + d, a * 16 + (ci - 48), rfl, (by first | rfl | (congr 1; omega)), (by first | rfl | (congr 1; omega)), by omega, HN⟩, by simp [RowKit.intOf]; omega⟩
        · -- a letter
          have hL97 : 97 ≤ L := by omega
          have hL122 : L ≤ 122 := by omega
          have h57 : 57 < ci := by omega
          have h95 : ¬ ci = 95 := by omega
          have hLd5 : L = d + 87 := by omega
          by_cases hd16 : 16 ≤ d
          · have hF : parseG 16 acc (c :: bs.drop (k + 1)) = none := by
              rw [parseG, hd]; simp only
              rw [if_pos hd16]
            rw [hF] at hp
            have HP2 := Aside0.mk hp
            have hL5 : 16 ≤ L - 97 + 10 := by omega
            clear hF hd hp h1 h2 h3 h4 h5 hdc hh hd16 hLd5 hci hL hL0 hc256 ha hacc
            go_wp2_with (go_at_call 93; refine (low_calls _ _).mono ?_; rintro e w' ⟨rfl, rfl⟩)
            all_goals go_ret2
            all_goals exact ⟨by rw [← HP2.out]; exact ⟨0, 2, rfl, .inr rfl⟩, HB0.out⟩
          · have hL5 : L - 97 + 10 < 16 := by omega
            by_cases hov : 4294967295 < acc * 16 + d
            · have hF : parseG 16 acc (c :: bs.drop (k + 1)) = none := by
                rw [parseG, hd]; simp only
                rw [if_neg hd16, if_pos hov]
              rw [hF] at hp
              have HP2 := Aside0.mk hp
              have iov : 4294967295 < a * 16 + (L - 97 + 10) := by omega
              clear hF hd hp h1 h2 h3 h4 h5 hdc hh hd16 hov hLd5 hci hL hL0 hc256 ha hacc
              go_wp2_with (go_at_call 93; refine (low_calls _ _).mono ?_; rintro e w' ⟨rfl, rfl⟩)
              all_goals go_ret2
              all_goals exact ⟨by rw [← HP2.out]; exact ⟨_, 1, rfl, .inl rfl⟩, HB0.out⟩
            · have hF : parseG 16 acc (c :: bs.drop (k + 1)) = parseG 16 (acc * 16 + d) (bs.drop (k + 1)) := by
                rw [parseG, hd]; simp only
                rw [if_neg hd16, if_neg hov]
              rw [hF] at hp
              have HN := Aside0.mk (show a * 16 + (L - 97 + 10) = ((acc * 16 + d : Nat) : Int) ∧ acc * 16 + d ≤ 4294967295 ∧ parseG 16 (acc * 16 + d) (bs.drop (k + 1)) = parseG 16 0 bs from ⟨by omega, by omega, hp⟩)
              have iov : a * 16 + (L - 97 + 10) ≤ 4294967295 := by omega
              clear hF hd hp h1 h2 h3 h4 h5 hdc hh hd16 hov hLd5 hci hL hL0 hc256 ha hacc
              go_wp2_with (go_at_call 93; refine (low_calls _ _).mono ?_; rintro e w' ⟨rfl, rfl⟩)
              refine ⟨⟨k + 1, acc * 16 + d, a * 16 + (L - 97 + 10), rfl, (by first | rfl | (congr 1; omega)), (by first | rfl | (congr 1; omega)), by omega, HN⟩, by simp [RowKit.intOf]; omega⟩
      · have hkk : k = s.size := by omega
        subst hkk
        rw [List.drop_eq_nil_of_le (by omega), parseG] at hp
        have HP2 := Aside0.mk hp
        subst ha
        clear hacc hp hh
        go_wp2
        go_ret2
        exact ⟨by rw [← HP2.out]; rfl, HB0.out⟩
def PuErr (o : Option Nat) (e : Ending) : Prop := match o with | some v => e = .returned (.tuple #[.int .u64 v, .nilIface]) | none => ∃ (v : Int) (te : TypeId) (pe : Value), e = .returned (.tuple #[.int .u64 v, .iface te pe])
set_option maxHeartbeats 4000000 in
set_option maxRecDepth 100000 in
theorem strconv_ParseUint_82.hof (s : ByteArray) (B : Nat) (hB : B = 10 ∨ B = 16) (w : World) (hs : s.size ≤ 1000000000000) (hT : Tabs w) :
    Calls Tryz.prog 82 #[.string s, .int .i64 B, .int .i64 32] w fun e w' => PuErr (parseN B s.data.toList) e ∧ Below w.heap.size w w' := by
  have H := Aside0.mk (show Calls Tryz.prog 89 #[.string s, .int .i64 B, .int .i64 32] w fun e w' => PuRes 129 (parseN B s.data.toList) e ∧ Below w.heap.size w w' by
    rcases hB with rfl | rfl
    · exact strconv_ParseUint_89.hof10 s w hs
    · exact strconv_ParseUint_89.hof16 s w hs)
  have HT := Aside0.mk hT
  have HS := Aside0.mk hs
  clear hT hs hB
  obtain ⟨o, ho⟩ : ∃ o, parseN B s.data.toList = o := ⟨_, rfl⟩
  rw [ho] at H ⊢
  clear ho
  cases o with
  | some v =>
    go_enter Tryz.func82, Tryz.ntmps82
    go_wp2_with (go_at_call 89; (with_reducible refine H.out.mono ?_))
    intro e w1 hr
    obtain ⟨hr, hb⟩ := hr
    obtain rfl : e = .returned (.tuple #[.int .u64 v, .nilIface]) := hr
    have HB := Aside0.mk hb
    clear hb H
    go_wp2
    go_ret2
    exact ⟨rfl, HB.out⟩
  | none =>
    go_enter Tryz.func82, Tryz.ntmps82
    go_wp2_with (go_at_call 89; (with_reducible refine H.out.mono ?_))
    intro e w1 hr
    obtain ⟨hr, hb⟩ := hr
    obtain ⟨v, c, rfl, hc⟩ : ∃ (v c : Int), e = .returned (.tuple #[.int .u64 v, .iface 129 (.int .i64 c)]) ∧ (c = 1 ∨ c = 2) := hr
    have HB := Aside0.mk hb
    clear hb H
    rcases hc with rfl | rfl
    · obtain ⟨ev, hv, hev⟩ := HT.out.3.2
      have HE := Aside0.mk (Tryz.strconv_toError_range ⟨#[80, 97, 114, 115, 101, 85, 105, 110, 116]⟩ s B 32 ev w1 (by have := HS.out; omega) (pw_cell_below HB.out hv) hev)
      clear hv hev
      go_wp2_with (go_at_call 90; (with_reducible refine HE.out.mono ?_))
      rintro e w2 ⟨n, rfl, h1, h2, h3⟩
      have HB2 := Aside0.mk (below2 HB.out h3)
      clear h1 h2 h3 HE
      go_wp2
      go_ret2
      exact ⟨⟨_, _, _, rfl⟩, HB2.out⟩
    · obtain ⟨ev, hv, hev⟩ := HT.out.3.1
      have HE := Aside0.mk (Tryz.strconv_toError_syntax ⟨#[80, 97, 114, 115, 101, 85, 105, 110, 116]⟩ s B 32 ev w1 (by have := HS.out; omega) (pw_cell_below HB.out hv) hev)
      clear hv hev
      go_wp2_with (go_at_call 90; (with_reducible refine HE.out.mono ?_))
      rintro e w2 ⟨n, rfl, h1, h2, h3⟩
      have HB2 := Aside0.mk (below2 HB.out h3)
      clear h1 h2 h3 HE
      go_wp2
      go_ret2
      exact ⟨⟨_, _, _, rfl⟩, HB2.out⟩
def numR (B : Nat) (most : Int) (s : ByteArray) : ByteArray :=
  match parseN B s.data.toList with
  | none => ⟨#[]⟩
  | some v => if (s.size : Int) > most ∨ (1114111 : Int) < (v : Int) ∨ Lib.validRune v = false ∨ validT (Utf8.encode v) = false then ⟨#[]⟩ else Utf8.encode v
def escape_number.f (a0 : ByteArray) (a1 a2 : Int) : Option ByteArray := if a0.size ≤ 1000000000000 ∧ (a1 = 10 ∨ a1 = 16) then some (numR a1.toNat a2 a0) else none
set_option maxHeartbeats 4000000 in
set_option maxRecDepth 100000 in
theorem escape_number.calls (a0 : ByteArray) (a1 a2 : Int) (r : ByteArray) (w : World) (h : escape_number.f a0 a1 a2 = some r) (hT : Tabs w) :
    Calls Tryz.prog 66 #[.string a0, .int .i64 a1, .int .i64 a2] w fun e w' => e = .returned (.string r) ∧ Below w.heap.size w w' := by
  unfold escape_number.f at h
  split at h
  · rename_i hs
    obtain rfl := Option.some.inj h
    obtain ⟨B, rfl, hB⟩ : ∃ B : Nat, a1 = (B : Int) ∧ (B = 10 ∨ B = 16) := by
      rcases hs.2 with rfl | rfl
      · exact ⟨10, rfl, .inl rfl⟩
      · exact ⟨16, rfl, .inr rfl⟩
    have H := Aside0.mk (strconv_ParseUint_82.hof a0 B hB w hs.1 hT)
    have HT := Aside0.mk hT
    rw [Int.toNat_natCast]
    obtain ⟨o, ho⟩ : ∃ o, parseN B a0.data.toList = o := ⟨_, rfl⟩
    rw [ho] at H
    have HO := Aside0.mk ho
    clear h hs hB hT ho
    cases o with
    | none =>
      go_enter Tryz.func66, Tryz.ntmps66
      go_wp2_with (go_at_call 82; (with_reducible refine H.out.mono ?_))
      intro e w1 hr
      obtain ⟨hr, hb⟩ := hr
      obtain ⟨v, te, pe, rfl⟩ : ∃ (v : Int) (te : TypeId) (pe : Value), e = .returned (.tuple #[.int .u64 v, .iface te pe]) := hr
      have HB := Aside0.mk hb
      clear hb H
      go_wp2
      go_ret
      exact ⟨by unfold numR; rw [HO.out]; rfl, HB.out⟩
    | some v =>
      have hres : numR B a2 a0 = if (a0.size : Int) > a2 ∨ (1114111 : Int) < (v : Int) ∨ Lib.validRune v = false ∨ validT (Utf8.encode v) = false then ⟨#[]⟩ else Utf8.encode v := by
        unfold numR; rw [HO.out]
      rw [hres]
      obtain ⟨vi, hvi⟩ : ∃ vi : Int, (v : Int) = vi := ⟨_, rfl⟩
      have hv0 : 0 ≤ vi := by omega
      have HEQ := Aside0.mk hvi
      rw [hvi]
      obtain ⟨R, hR⟩ : ∃ R, (if (a0.size : Int) > a2 ∨ (1114111 : Int) < vi ∨ Lib.validRune vi = false ∨ validT (Utf8.encode vi) = false then (⟨#[]⟩ : ByteArray) else Utf8.encode vi) = R := ⟨_, rfl⟩
      rw [hR]
      have HR := Aside0.mk hR
      clear hres hR
      go_enter Tryz.func66, Tryz.ntmps66
      go_wp2_with (go_at_call 82; (with_reducible refine H.out.mono ?_))
      intro e w1 hr
      obtain ⟨hr, hb⟩ := hr
      obtain rfl : e = .returned (.tuple #[.int .u64 v, .nilIface]) := hr
      have HB := Aside0.mk hb
      rw [hvi]
      clear hb H hvi
      by_cases hm : a2 < (a0.size : Int)
      · go_wp2
        go_ret
        exact ⟨by rw [← HR.out, if_pos (.inl hm)]; rfl, HB.out⟩
      · by_cases hb : 1114111 < vi
        · have hm2 : (a0.size : Int) ≤ a2 := by omega
          go_wp2
          go_ret
          exact ⟨by rw [← HR.out, if_pos (.inr (.inl hb))]; rfl, HB.out⟩
        · have hm2 : (a0.size : Int) ≤ a2 := by omega
          have hb2 : vi ≤ 1114111 := by omega
          have hw : wrap32 vi = vi := by unfold wrap32; omega
          cases hvr : Lib.validRune vi with
          | false =>
            go_wp2_with (go_at_call 83; refine (Tryz.utf8_ValidRune _ _).mono ?_; rintro e w' ⟨rfl, rfl⟩)
            go_ret
            exact ⟨by rw [← HR.out, if_pos (.inr (.inr (.inl hvr)))]; rfl, HB.out⟩
          | true =>
            have HVal := Aside0.mk (fun b (hb : validT (Utf8.encode vi) = b) => utf_Valid.calls (Utf8.encode vi) b w1 (by unfold utf_Valid.f; rw [if_pos (by have := (encode_size vi).2; omega), hb]) (tabs_b HT.out HB.out))
            cases hvt : validT (Utf8.encode vi) with
            | false =>
              have HV2 := Aside0.mk (HVal.out false hvt)
              clear HVal
              go_wp2_with (first | (go_at_call 83; refine (Tryz.utf8_ValidRune _ _).mono ?_; rintro e w' ⟨rfl, rfl⟩) | (go_at_call 9; (with_reducible refine HV2.out.mono ?_); rintro e w2 ⟨rfl, hb3⟩; have HB2 := Aside0.mk (below2 HB.out hb3); clear hb3))
              go_ret
              exact ⟨by rw [← HR.out, if_pos (.inr (.inr (.inr hvt)))]; rfl, HB2.out⟩
            | true =>
              have HV2 := Aside0.mk (HVal.out true hvt)
              clear HVal
              go_wp2_with (first | (go_at_call 83; refine (Tryz.utf8_ValidRune _ _).mono ?_; rintro e w' ⟨rfl, rfl⟩) | (go_at_call 9; (with_reducible refine HV2.out.mono ?_); rintro e w2 ⟨rfl, hb3⟩; have HB2 := Aside0.mk (below2 HB.out hb3); clear hb3))
              go_ret
              exact ⟨by rw [← HR.out, if_neg (by intro h; rcases h with h | h | h | h <;> first | omega | (rw [hvr] at h; cases h) | (rw [hvt] at h; cases h))]; rfl, HB2.out⟩
  · cases h
def escape_sign.f (k : Nat) (a0 : ByteArray) : Option (ByteArray) := (escape_names.f).bind fun bt151 => ((escape_table_string_string_of.f k bt151.1 bt151.2 a0).bind fun bt157 => (if bt157.2 = true then (some bt157.1) else ((strings_CutPrefix.f a0 (⟨#[35, 120]⟩ : ByteArray)).bind fun bt159 => (if bt159.2 = true then ((escape_number.f bt159.1 16 6).bind fun t161 => (some t161)) else ((strings_CutPrefix.f a0 (⟨#[35]⟩ : ByteArray)).bind fun bt162 => (if bt162.2 = true then ((escape_number.f bt162.1 10 7).bind fun t164 => (some t164)) else (some (⟨#[]⟩ : ByteArray))))))))
set_option maxHeartbeats 8000000 in
set_option maxRecDepth 100000 in
theorem escape_sign.calls (k : Nat) (a0 : ByteArray) (r : ByteArray) (w : World) (h : escape_sign.f k a0 = some r) (hT : Tabs w) :
    Calls Tryz.prog 45 #[.string a0] w fun e w' => e = .returned (.string r) ∧ Below w.heap.size w w' := by
  have HT := Aside0.mk hT
  clear hT
  have HB := Aside0.mk (Below.refl w.heap.size w)
  have H : ((escape_names.f).bind fun bt151 => ((escape_table_string_string_of.f k bt151.1 bt151.2 a0).bind fun bt157 => (if bt157.2 = true then (some bt157.1) else ((strings_CutPrefix.f a0 (⟨#[35, 120]⟩ : ByteArray)).bind fun bt159 => (if bt159.2 = true then ((escape_number.f bt159.1 16 6).bind fun t161 => (some t161)) else ((strings_CutPrefix.f a0 (⟨#[35]⟩ : ByteArray)).bind fun bt162 => (if bt162.2 = true then ((escape_number.f bt162.1 10 7).bind fun t164 => (some t164)) else (some (⟨#[]⟩ : ByteArray))))))))) = some r := h
  clear h
  replace H := Option.bind_eq_some_iff.mp H
  obtain ⟨⟨t151, t154⟩, A20, H⟩ := H
  replace H : ((escape_table_string_string_of.f k t151 t154 a0).bind fun bt157 => (if bt157.2 = true then (some bt157.1) else ((strings_CutPrefix.f a0 (⟨#[35, 120]⟩ : ByteArray)).bind fun bt159 => (if bt159.2 = true then ((escape_number.f bt159.1 16 6).bind fun t161 => (some t161)) else ((strings_CutPrefix.f a0 (⟨#[35]⟩ : ByteArray)).bind fun bt162 => (if bt162.2 = true then ((escape_number.f bt162.1 10 7).bind fun t164 => (some t164)) else (some (⟨#[]⟩ : ByteArray)))))))) = some r := H
  have A2 := Aside0.mk A20
  clear A20
  replace H := Option.bind_eq_some_iff.mp H
  obtain ⟨⟨t157, t158⟩, A30, H⟩ := H
  replace H : (if t158 = true then (some t157) else ((strings_CutPrefix.f a0 (⟨#[35, 120]⟩ : ByteArray)).bind fun bt159 => (if bt159.2 = true then ((escape_number.f bt159.1 16 6).bind fun t161 => (some t161)) else ((strings_CutPrefix.f a0 (⟨#[35]⟩ : ByteArray)).bind fun bt162 => (if bt162.2 = true then ((escape_number.f bt162.1 10 7).bind fun t164 => (some t164)) else (some (⟨#[]⟩ : ByteArray))))))) = some r := H
  have A3 := Aside0.mk A30
  clear A30
  by_cases c4 : t158 = true
  · subst c4
    have H1 : (some t157) = some r := by rw [if_pos rfl] at H; exact H
    clear H
    have H := H1
    clear H1
    obtain rfl := Option.some.inj H
    go_enter Tryz.func45, Tryz.ntmps45
    go_wp2_with (first | ((with_reducible refine gate_callee (f := 64) rfl ?_); refine goesL_ (some 10) rfl rfl Tryz.func64 zz29 rfl #[] rfl zz1 ?_; (with_reducible refine (escape_names.calls  t151 t154 _ A2.out).mono ?_); rintro e w5 ⟨v152, v155, rfl, ho0, ho1, hb⟩; refine ⟨_, rfl, ?_⟩; have n0_ := Aside0.mk (Kd.R_lower ho0 (below_size zz0)); have n1_ := Aside0.mk (Kd.R_lower ho1 (below_size zz0)); have n2_ := Aside0.mk (below_step zz0 hb); clear HB; have HO153 := n0_; have HO156 := n1_; have HB := n2_; clear n0_ n1_ n2_; (try clear hb); (try clear hb2); (try clear hk); (try clear hi); (try clear ho0); (try clear ho1); obtain ⟨Ao6, co6, eo6⟩ := Kd.R_slice HO153.out; subst eo6; obtain ⟨Ao7, co7, eo7⟩ := Kd.R_slice HO156.out; subst eo7) | ((with_reducible refine gate_callee (f := 65) rfl ?_); refine goesL_ (some 12) rfl rfl Tryz.func65 zz29 rfl #[.agg #[.slice Ao6 t151.length co6, .slice Ao7 t154.length co7], .string a0] rfl zz1 ?_; (with_reducible refine (escape_table_string_string_of.calls k _ _ t151 _ _ t154 a0 t157 true _ ?side1 ?side2 ?side3 ?side4 A3.out).mono ?_); (case side1 => exact zz75); (case side2 => exact (Kd.R_reads' HO153.out).2.1); (case side3 => exact zz74); (case side4 => exact (Kd.R_reads' HO156.out).2.1); rintro e w8 ⟨rfl, hb⟩; refine ⟨_, rfl, ?_⟩; have n0_ := Aside0.mk (Kd.R_below zz78 hb); have n1_ := Aside0.mk (Kd.R_below zz77 hb); have n2_ := Aside0.mk (below_step zz0 hb); clear HO153; clear HO156; clear HB; have HO153 := n0_; have HO156 := n1_; have HB := n2_; clear n0_ n1_ n2_; (try clear hb); (try clear hb2); (try clear hk); (try clear hi)))
    go_ret
    exact ⟨zz4, zz0⟩
  · replace c4 := Bool.eq_false_iff.mpr c4
    subst c4
    have H1 : ((strings_CutPrefix.f a0 (⟨#[35, 120]⟩ : ByteArray)).bind fun bt159 => (if bt159.2 = true then ((escape_number.f bt159.1 16 6).bind fun t161 => (some t161)) else ((strings_CutPrefix.f a0 (⟨#[35]⟩ : ByteArray)).bind fun bt162 => (if bt162.2 = true then ((escape_number.f bt162.1 10 7).bind fun t164 => (some t164)) else (some (⟨#[]⟩ : ByteArray)))))) = some r := by rw [if_neg (show ¬ (false = true) by decide)] at H; exact H
    clear H
    have H := H1
    clear H1
    replace H := Option.bind_eq_some_iff.mp H
    obtain ⟨⟨t159, t160⟩, A90, H⟩ := H
    replace H : (if t160 = true then ((escape_number.f t159 16 6).bind fun t161 => (some t161)) else ((strings_CutPrefix.f a0 (⟨#[35]⟩ : ByteArray)).bind fun bt162 => (if bt162.2 = true then ((escape_number.f bt162.1 10 7).bind fun t164 => (some t164)) else (some (⟨#[]⟩ : ByteArray))))) = some r := H
    have A9 := Aside0.mk A90
    clear A90
    by_cases c10 : t160 = true
    · subst c10
      have H1 : ((escape_number.f t159 16 6).bind fun t161 => (some t161)) = some r := by rw [if_pos rfl] at H; exact H
      clear H
      have H := H1
      clear H1
      replace H := Option.bind_eq_some_iff.mp H
      obtain ⟨t161, A110, H⟩ := H
      replace H : (some t161) = some r := H
      have A11 := Aside0.mk A110
      clear A110
      obtain rfl := Option.some.inj H
      go_enter Tryz.func45, Tryz.ntmps45
      go_wp2_with (first | ((with_reducible refine gate_callee (f := 64) rfl ?_); refine goesL_ (some 10) rfl rfl Tryz.func64 zz29 rfl #[] rfl zz1 ?_; (with_reducible refine (escape_names.calls  t151 t154 _ A2.out).mono ?_); rintro e w12 ⟨v152, v155, rfl, ho0, ho1, hb⟩; refine ⟨_, rfl, ?_⟩; have n0_ := Aside0.mk (Kd.R_lower ho0 (below_size zz0)); have n1_ := Aside0.mk (Kd.R_lower ho1 (below_size zz0)); have n2_ := Aside0.mk (below_step zz0 hb); clear HB; have HO153 := n0_; have HO156 := n1_; have HB := n2_; clear n0_ n1_ n2_; (try clear hb); (try clear hb2); (try clear hk); (try clear hi); (try clear ho0); (try clear ho1); obtain ⟨Ao13, co13, eo13⟩ := Kd.R_slice HO153.out; subst eo13; obtain ⟨Ao14, co14, eo14⟩ := Kd.R_slice HO156.out; subst eo14) | ((with_reducible refine gate_callee (f := 65) rfl ?_); refine goesL_ (some 12) rfl rfl Tryz.func65 zz29 rfl #[.agg #[.slice Ao13 t151.length co13, .slice Ao14 t154.length co14], .string a0] rfl zz1 ?_; (with_reducible refine (escape_table_string_string_of.calls k _ _ t151 _ _ t154 a0 t157 false _ ?side1 ?side2 ?side3 ?side4 A3.out).mono ?_); (case side1 => exact zz75); (case side2 => exact (Kd.R_reads' HO153.out).2.1); (case side3 => exact zz74); (case side4 => exact (Kd.R_reads' HO156.out).2.1); rintro e w15 ⟨rfl, hb⟩; refine ⟨_, rfl, ?_⟩; have n0_ := Aside0.mk (Kd.R_below zz78 hb); have n1_ := Aside0.mk (Kd.R_below zz77 hb); have n2_ := Aside0.mk (below_step zz0 hb); clear HO153; clear HO156; clear HB; have HO153 := n0_; have HO156 := n1_; have HB := n2_; clear n0_ n1_ n2_; (try clear hb); (try clear hb2); (try clear hk); (try clear hi)) | ((with_reducible refine gate_callee (f := 19) rfl ?_); refine goesL_ (some 19) rfl rfl Tryz.func19 zz29 rfl #[.string a0, .string (⟨#[35, 120]⟩ : ByteArray)] rfl zz1 ?_; (with_reducible refine (strings_CutPrefix.calls a0 (⟨#[35, 120]⟩ : ByteArray) t159 true _ A9.out).mono ?_); rintro e w' ⟨rfl, ⟨nd, rfl⟩⟩; refine ⟨_, rfl, ?_⟩) | ((with_reducible refine gate_callee (f := 66) rfl ?_); refine goesL_ (some 24) rfl rfl Tryz.func66 zz29 rfl #[.string t159, .int .i64 16, .int .i64 6] rfl zz1 ?_; (with_reducible refine (escape_number.calls t159 16 6 t161 _ A11.out (tabs_b HT.out zz0)).mono ?_); rintro e w16 ⟨rfl, hb⟩; refine ⟨_, rfl, ?_⟩; have n0_ := Aside0.mk (Kd.R_below zz78 hb); have n1_ := Aside0.mk (Kd.R_below zz77 hb); have n2_ := Aside0.mk (below_step zz0 hb); clear HO153; clear HO156; clear HB; have HO153 := n0_; have HO156 := n1_; have HB := n2_; clear n0_ n1_ n2_; (try clear hb); (try clear hb2); (try clear hk); (try clear hi)))
      go_ret
      exact ⟨zz4, zz0⟩
    · replace c10 := Bool.eq_false_iff.mpr c10
      subst c10
      have H1 : ((strings_CutPrefix.f a0 (⟨#[35]⟩ : ByteArray)).bind fun bt162 => (if bt162.2 = true then ((escape_number.f bt162.1 10 7).bind fun t164 => (some t164)) else (some (⟨#[]⟩ : ByteArray)))) = some r := by rw [if_neg (show ¬ (false = true) by decide)] at H; exact H
      clear H
      have H := H1
      clear H1
      replace H := Option.bind_eq_some_iff.mp H
      obtain ⟨⟨t162, t163⟩, A170, H⟩ := H
      replace H : (if t163 = true then ((escape_number.f t162 10 7).bind fun t164 => (some t164)) else (some (⟨#[]⟩ : ByteArray))) = some r := H
      have A17 := Aside0.mk A170
      clear A170
      by_cases c18 : t163 = true
      · subst c18
        have H1 : ((escape_number.f t162 10 7).bind fun t164 => (some t164)) = some r := by rw [if_pos rfl] at H; exact H
        clear H
        have H := H1
        clear H1
        replace H := Option.bind_eq_some_iff.mp H
        obtain ⟨t164, A190, H⟩ := H
        replace H : (some t164) = some r := H
        have A19 := Aside0.mk A190
        clear A190
        obtain rfl := Option.some.inj H
        go_enter Tryz.func45, Tryz.ntmps45
        go_wp2_with (first | ((with_reducible refine gate_callee (f := 64) rfl ?_); refine goesL_ (some 10) rfl rfl Tryz.func64 zz29 rfl #[] rfl zz1 ?_; (with_reducible refine (escape_names.calls  t151 t154 _ A2.out).mono ?_); rintro e w20 ⟨v152, v155, rfl, ho0, ho1, hb⟩; refine ⟨_, rfl, ?_⟩; have n0_ := Aside0.mk (Kd.R_lower ho0 (below_size zz0)); have n1_ := Aside0.mk (Kd.R_lower ho1 (below_size zz0)); have n2_ := Aside0.mk (below_step zz0 hb); clear HB; have HO153 := n0_; have HO156 := n1_; have HB := n2_; clear n0_ n1_ n2_; (try clear hb); (try clear hb2); (try clear hk); (try clear hi); (try clear ho0); (try clear ho1); obtain ⟨Ao21, co21, eo21⟩ := Kd.R_slice HO153.out; subst eo21; obtain ⟨Ao22, co22, eo22⟩ := Kd.R_slice HO156.out; subst eo22) | ((with_reducible refine gate_callee (f := 65) rfl ?_); refine goesL_ (some 12) rfl rfl Tryz.func65 zz29 rfl #[.agg #[.slice Ao21 t151.length co21, .slice Ao22 t154.length co22], .string a0] rfl zz1 ?_; (with_reducible refine (escape_table_string_string_of.calls k _ _ t151 _ _ t154 a0 t157 false _ ?side1 ?side2 ?side3 ?side4 A3.out).mono ?_); (case side1 => exact zz75); (case side2 => exact (Kd.R_reads' HO153.out).2.1); (case side3 => exact zz74); (case side4 => exact (Kd.R_reads' HO156.out).2.1); rintro e w23 ⟨rfl, hb⟩; refine ⟨_, rfl, ?_⟩; have n0_ := Aside0.mk (Kd.R_below zz78 hb); have n1_ := Aside0.mk (Kd.R_below zz77 hb); have n2_ := Aside0.mk (below_step zz0 hb); clear HO153; clear HO156; clear HB; have HO153 := n0_; have HO156 := n1_; have HB := n2_; clear n0_ n1_ n2_; (try clear hb); (try clear hb2); (try clear hk); (try clear hi)) | ((with_reducible refine gate_callee (f := 19) rfl ?_); refine goesL_ (some 19) rfl rfl Tryz.func19 zz29 rfl #[.string a0, .string (⟨#[35, 120]⟩ : ByteArray)] rfl zz1 ?_; (with_reducible refine (strings_CutPrefix.calls a0 (⟨#[35, 120]⟩ : ByteArray) t159 false _ A9.out).mono ?_); rintro e w' ⟨rfl, ⟨nd, rfl⟩⟩; refine ⟨_, rfl, ?_⟩) | ((with_reducible refine gate_callee (f := 19) rfl ?_); refine goesL_ (some 27) rfl rfl Tryz.func19 zz29 rfl #[.string a0, .string (⟨#[35]⟩ : ByteArray)] rfl zz1 ?_; (with_reducible refine (strings_CutPrefix.calls a0 (⟨#[35]⟩ : ByteArray) t162 true _ A17.out).mono ?_); rintro e w' ⟨rfl, ⟨nd, rfl⟩⟩; refine ⟨_, rfl, ?_⟩) | ((with_reducible refine gate_callee (f := 66) rfl ?_); refine goesL_ (some 32) rfl rfl Tryz.func66 zz29 rfl #[.string t162, .int .i64 10, .int .i64 7] rfl zz1 ?_; (with_reducible refine (escape_number.calls t162 10 7 t164 _ A19.out (tabs_b HT.out zz0)).mono ?_); rintro e w24 ⟨rfl, hb⟩; refine ⟨_, rfl, ?_⟩; have n0_ := Aside0.mk (Kd.R_below zz78 hb); have n1_ := Aside0.mk (Kd.R_below zz77 hb); have n2_ := Aside0.mk (below_step zz0 hb); clear HO153; clear HO156; clear HB; have HO153 := n0_; have HO156 := n1_; have HB := n2_; clear n0_ n1_ n2_; (try clear hb); (try clear hb2); (try clear hk); (try clear hi)))
        go_ret
        exact ⟨zz4, zz0⟩
      · replace c18 := Bool.eq_false_iff.mpr c18
        subst c18
        have H1 : (some (⟨#[]⟩ : ByteArray)) = some r := by rw [if_neg (show ¬ (false = true) by decide)] at H; exact H
        clear H
        have H := H1
        clear H1
        obtain rfl := Option.some.inj H
        go_enter Tryz.func45, Tryz.ntmps45
        go_wp2_with (first | ((with_reducible refine gate_callee (f := 64) rfl ?_); refine goesL_ (some 10) rfl rfl Tryz.func64 zz29 rfl #[] rfl zz1 ?_; (with_reducible refine (escape_names.calls  t151 t154 _ A2.out).mono ?_); rintro e w25 ⟨v152, v155, rfl, ho0, ho1, hb⟩; refine ⟨_, rfl, ?_⟩; have n0_ := Aside0.mk (Kd.R_lower ho0 (below_size zz0)); have n1_ := Aside0.mk (Kd.R_lower ho1 (below_size zz0)); have n2_ := Aside0.mk (below_step zz0 hb); clear HB; have HO153 := n0_; have HO156 := n1_; have HB := n2_; clear n0_ n1_ n2_; (try clear hb); (try clear hb2); (try clear hk); (try clear hi); (try clear ho0); (try clear ho1); obtain ⟨Ao26, co26, eo26⟩ := Kd.R_slice HO153.out; subst eo26; obtain ⟨Ao27, co27, eo27⟩ := Kd.R_slice HO156.out; subst eo27) | ((with_reducible refine gate_callee (f := 65) rfl ?_); refine goesL_ (some 12) rfl rfl Tryz.func65 zz29 rfl #[.agg #[.slice Ao26 t151.length co26, .slice Ao27 t154.length co27], .string a0] rfl zz1 ?_; (with_reducible refine (escape_table_string_string_of.calls k _ _ t151 _ _ t154 a0 t157 false _ ?side1 ?side2 ?side3 ?side4 A3.out).mono ?_); (case side1 => exact zz75); (case side2 => exact (Kd.R_reads' HO153.out).2.1); (case side3 => exact zz74); (case side4 => exact (Kd.R_reads' HO156.out).2.1); rintro e w28 ⟨rfl, hb⟩; refine ⟨_, rfl, ?_⟩; have n0_ := Aside0.mk (Kd.R_below zz78 hb); have n1_ := Aside0.mk (Kd.R_below zz77 hb); have n2_ := Aside0.mk (below_step zz0 hb); clear HO153; clear HO156; clear HB; have HO153 := n0_; have HO156 := n1_; have HB := n2_; clear n0_ n1_ n2_; (try clear hb); (try clear hb2); (try clear hk); (try clear hi)) | ((with_reducible refine gate_callee (f := 19) rfl ?_); refine goesL_ (some 19) rfl rfl Tryz.func19 zz29 rfl #[.string a0, .string (⟨#[35, 120]⟩ : ByteArray)] rfl zz1 ?_; (with_reducible refine (strings_CutPrefix.calls a0 (⟨#[35, 120]⟩ : ByteArray) t159 false _ A9.out).mono ?_); rintro e w' ⟨rfl, ⟨nd, rfl⟩⟩; refine ⟨_, rfl, ?_⟩) | ((with_reducible refine gate_callee (f := 19) rfl ?_); refine goesL_ (some 27) rfl rfl Tryz.func19 zz29 rfl #[.string a0, .string (⟨#[35]⟩ : ByteArray)] rfl zz1 ?_; (with_reducible refine (strings_CutPrefix.calls a0 (⟨#[35]⟩ : ByteArray) t162 false _ A17.out).mono ?_); rintro e w' ⟨rfl, ⟨nd, rfl⟩⟩; refine ⟨_, rfl, ?_⟩))
        go_ret
        exact ⟨zz4, zz0⟩
end Go.Proofs.YtjijbncheikagaaGreatDoor.Q
