/- Plain law of this session: the reference's decoder is the kit's own; what it calls a text. -/
import Derived.Test.YtgacmniagmfckaaDoorUtf
import Derived.Test.YtgacmniagmfckaaDoorQ
import Derived.Laws.BitsLemmas
namespace Go.Proofs.YtgacmniagmfckaaDoor.P
open Go.RowKit Go.Lib Go.Proofs.YtgacmniagmfckaaDoorX Go.Proofs.YtgacmniagmfckaaDoorW.PrintWords Go.Proofs.YtgacmniagmfckaaDoor.Q
set_option linter.unusedVariables false
set_option linter.unusedSimpArgs false
theorem wraps_i64 (n : Int) (h0 : 0 ≤ n) (h1 : n < 2 ^ 62) : IntKind.i64.wrap n = n := by rw [IntKind.wrap_i64]; omega
theorem i64_and31 (x : Int) (h0 : 0 ≤ x) (h1 : x < 256) : Go.bits .and .i64 x 31 = x % 32 := bits_mask .i64 62 (by decide) wraps_i64 5 (by decide) x h0 (by omega)
theorem i64_and15 (x : Int) (h0 : 0 ≤ x) (h1 : x < 256) : Go.bits .and .i64 x 15 = x % 16 := bits_mask .i64 62 (by decide) wraps_i64 4 (by decide) x h0 (by omega)
theorem i64_and7 (x : Int) (h0 : 0 ≤ x) (h1 : x < 256) : Go.bits .and .i64 x 7 = x % 8 := bits_mask .i64 62 (by decide) wraps_i64 3 (by decide) x h0 (by omega)
theorem i64_or6 (x y : Int) (hx0 : 0 ≤ x) (hx : x % 64 = 0) (hx1 : x < 1099511627776) (h0 : 0 ≤ y) (h1 : y < 64) : Go.bits .or .i64 x y = x + y :=
  bits_join .i64 62 (by decide) wraps_i64 6 x y hx0 hx (by omega) h0 h1 (by omega)
theorem top_all : ∀ b : Fin 256, (Go.bits .and .u8 (b.val : Int) 192 == 128) = (b.val / 64 == 2) := by decide +kernel
theorem u8_top (b : Nat) (h : b < 256) : Go.bits .and .u8 (b : Int) 192 = 128 ↔ b / 64 = 2 := by
  have := top_all ⟨b, h⟩
  simp only at this
  constructor
  · intro e
    rw [e] at this
    exact beq_iff_eq.1 this.symm
  · intro e
    rw [e] at this
    exact beq_iff_eq.1 this
def byte (s : ByteArray) (i : Nat) : Nat := (s.data.toList.getD i 0).toNat
theorem byte_lt (s : ByteArray) (i : Nat) : byte s i < 256 := UInt8.toNat_lt _
theorem bt_byte (s : ByteArray) (i : Nat) : bt s (i : Int) = (byte s i : Int) := by
  unfold bt byte
  rw [Int.toNat_natCast]
  split
  · rename_i h
    have hl : i < s.data.toList.length := by rw [Array.length_toList]; exact h
    rw [List.getD_eq_getElem?_getD, List.getElem?_eq_getElem hl, Option.getD_some]
    rfl
  · rename_i h
    have hl : s.data.toList.length ≤ i := by rw [Array.length_toList]; exact Nat.le_of_not_lt h
    rw [List.getD_eq_getElem?_getD, List.getElem?_eq_none hl]
    rfl
def decEnd (c n low : Int) : Int × Int := if c < low then (0, 0) else if c > 1114111 then (0, 0) else if c ≥ 55296 ∧ c ≤ 57343 then (0, 0) else (c, n)
theorem dec_end (s : ByteArray) (x1 c n low j : Int) (k : Nat) (h : ¬ j < n) : cardexref01_decode.l0 (k + 1) s x1 c n low j = some (decEnd c n low) := by
  rw [cardexref01_decode.l0, if_neg h]
  unfold decEnd
  split
  · rfl
  · split
    · rfl
    · by_cases h1 : c ≥ 55296
      · by_cases h2 : c ≤ 57343
        · rw [if_pos h1, if_pos h2, if_pos ⟨h1, h2⟩]
        · rw [if_pos h1, if_neg h2, if_neg (fun h => h2 h.2)]
      · rw [if_neg h1, if_neg (fun h => h1 h.1)]
theorem dec_step (s : ByteArray) (i j : Nat) (c n low : Int) (k : Nat) (hs : s.size ≤ 140737488351232) (h : (j : Int) < n) (hi : i + j < s.size) (c0 : 0 ≤ c) (c1 : c < 1000000000) :
    cardexref01_decode.l0 (k + 1) s (i : Int) c n low (j : Int) = if byte s (i + j) / 64 = 2 then cardexref01_decode.l0 k s (i : Int) (c * 64 + (byte s (i + j) % 64 : Nat)) n low ((j + 1 : Nat) : Int) else some (0, 0) := by
  have hb := byte_lt s (i + j)
  have w1 : wrap64 ((i : Int) + j) = ((i + j : Nat) : Int) := by rw [w64 (by omega) (by omega)]; omega
  have w2 : wrap64 (c * 64) = c * 64 := w64 (by omega) (by omega)
  have w3 : wrap64 ((j : Int) + 1) = ((j + 1 : Nat) : Int) := by rw [w64 (by omega) (by omega)]; omega
  have e1 : Go.bits .and .u8 ((byte s (i + j) : Nat) : Int) 63 = ((byte s (i + j) % 64 : Nat) : Int) := by
    rw [u8_and63 _ (by omega) (by omega)]; omega
  rw [cardexref01_decode.l0, if_pos h, w1, if_pos (by omega), if_pos (by omega), bt_byte, w2, w3, e1]
  rw [w64 (x := ((byte s (i + j) % 64 : Nat) : Int)) (by omega) (by omega), i64_or6 _ _ (by omega) (by omega) (by omega) (by omega) (by omega)]
  by_cases ht : byte s (i + j) / 64 = 2
  · rw [if_pos ht, if_pos ((u8_top _ hb).2 ht)]
  · rw [if_neg ht, if_neg (fun e => ht ((u8_top _ hb).1 e))]
def ofD (p : Nat × Nat) : Int × Int := if p.1 = 65533 ∧ p.2 = 1 then (0, 0) else ((p.1 : Int), (p.2 : Int))
theorem ofD_bad : ofD (65533, 1) = (0, 0) := rfl
theorem ofD_good (c n : Nat) (h : n ≠ 1 ∨ c ≠ 65533) : ofD (c, n) = ((c : Int), (n : Int)) := by
  unfold ofD
  rw [if_neg (by omega)]
def decP (l : List UInt8) : Int × Int := ofD (decodeL l)
theorem decEnd_eq (c n : Nat) (low : Int) : decEnd (c : Int) (n : Int) low = if low ≤ (c : Int) ∧ (c < 55296 ∨ (57344 ≤ c ∧ c ≤ 1114111)) then ((c : Int), (n : Int)) else (0, 0) := by
  unfold decEnd
  repeat' split
  all_goals first | rfl | (exfalso; omega)
theorem j2_eq (s : ByteArray) (i : Nat) (hs : s.size ≤ 140737488351232) (hi : i < s.size) (c n low : Int) (k : Nat) (h1 : 1 ≤ n) (h4 : n ≤ 4) :
    cardexref01_decode.j2 (k + 1) s (i : Int) c n low = if (i : Int) + n > s.size then some (0, 0) else cardexref01_decode.l0 k s (i : Int) c n low ((1 : Nat) : Int) := by
  rw [cardexref01_decode.j2, w64 (by omega) (by omega)]
  rfl
theorem two_eq (s : ByteArray) (i k B0 : Nat) (hs : s.size ≤ 140737488351232) (hi : i < s.size) (c1 : 192 ≤ B0 ∧ B0 < 224) :
    cardexref01_decode.j2 (k + 7) s (i : Int) ((B0 % 32 : Nat) : Int) 2 128 = some (ofD (decodeN (s.size - i) B0 (byte s (i + 1)) (byte s (i + 2)) (byte s (i + 3)))) := by
  rw [j2_eq s i hs hi _ _ _ _ (by decide) (by decide)]
  have bad : (¬ (1 < s.size - i ∧ byte s (i + 1) / 64 = 2)) → decodeN (s.size - i) B0 (byte s (i + 1)) (byte s (i + 2)) (byte s (i + 3)) = (65533, 1) := by
    intro h
    unfold decodeN
    rw [if_neg (by omega), if_neg (by omega), if_neg (by omega), if_neg (by omega)]
  by_cases hr : 1 < s.size - i
  · rw [if_neg (by omega), dec_step s i 1 _ _ _ _ hs (by decide) (by omega) (by omega) (by omega)]
    by_cases t1 : byte s (i + 1) / 64 = 2
    · rw [if_pos t1, dec_end _ _ _ _ _ _ _ (by decide)]
      have hc : ((B0 % 32 : Nat) : Int) * 64 + ((byte s (i + 1) % 64 : Nat) : Int) = ((B0 % 32 * 64 + byte s (i + 1) % 64 : Nat) : Int) := by omega
      rw [hc, show (2 : Int) = ((2 : Nat) : Int) from rfl, decEnd_eq]
      have hD : decodeN (s.size - i) B0 (byte s (i + 1)) (byte s (i + 2)) (byte s (i + 3)) = if B0 % 32 * 64 + byte s (i + 1) % 64 ≥ 128 then (B0 % 32 * 64 + byte s (i + 1) % 64, 2) else (65533, 1) := by
        unfold decodeN
        rw [if_neg (by omega), if_pos (by omega)]
      rw [hD]
      by_cases hg : B0 % 32 * 64 + byte s (i + 1) % 64 ≥ 128
      · rw [if_pos (by omega), if_pos hg, ofD_good _ _ (.inl (by decide))]
      · rw [if_neg (by omega), if_neg hg, ofD_bad]
    · rw [if_neg t1, bad (by omega), ofD_bad]
  · rw [if_pos (by omega), bad (by omega), ofD_bad]
theorem three_eq (s : ByteArray) (i k B0 : Nat) (hs : s.size ≤ 140737488351232) (hi : i < s.size) (c1 : 224 ≤ B0 ∧ B0 < 240) :
    cardexref01_decode.j2 (k + 6) s (i : Int) ((B0 % 16 : Nat) : Int) 3 2048 = some (ofD (decodeN (s.size - i) B0 (byte s (i + 1)) (byte s (i + 2)) (byte s (i + 3)))) := by
  rw [j2_eq s i hs hi _ _ _ _ (by decide) (by decide)]
  have bad : (¬ (2 < s.size - i ∧ byte s (i + 1) / 64 = 2 ∧ byte s (i + 2) / 64 = 2)) → decodeN (s.size - i) B0 (byte s (i + 1)) (byte s (i + 2)) (byte s (i + 3)) = (65533, 1) := by
    intro h
    unfold decodeN
    rw [if_neg (by omega), if_neg (by omega), if_neg (by omega), if_neg (by omega)]
  by_cases hr : 2 < s.size - i
  · rw [if_neg (by omega), dec_step s i 1 _ _ _ _ hs (by decide) (by omega) (by omega) (by omega)]
    by_cases t1 : byte s (i + 1) / 64 = 2
    · rw [if_pos t1, dec_step s i (1 + 1) _ _ _ _ hs (by decide) (by omega) (by omega) (by omega)]
      rw [show i + (1 + 1) = i + 2 from rfl]
      by_cases t2 : byte s (i + 2) / 64 = 2
      · rw [if_pos t2, dec_end _ _ _ _ _ _ _ (by decide)]
        have hc : (((B0 % 16 : Nat) : Int) * 64 + ((byte s (i + 1) % 64 : Nat) : Int)) * 64 + ((byte s (i + 2) % 64 : Nat) : Int) = ((B0 % 16 * 4096 + byte s (i + 1) % 64 * 64 + byte s (i + 2) % 64 : Nat) : Int) := by omega
        rw [hc, show (3 : Int) = ((3 : Nat) : Int) from rfl, decEnd_eq]
        have hD : decodeN (s.size - i) B0 (byte s (i + 1)) (byte s (i + 2)) (byte s (i + 3)) = if B0 % 16 * 4096 + byte s (i + 1) % 64 * 64 + byte s (i + 2) % 64 ≥ 2048 ∧ (B0 % 16 * 4096 + byte s (i + 1) % 64 * 64 + byte s (i + 2) % 64 < 55296 ∨ (57344 ≤ B0 % 16 * 4096 + byte s (i + 1) % 64 * 64 + byte s (i + 2) % 64 ∧ B0 % 16 * 4096 + byte s (i + 1) % 64 * 64 + byte s (i + 2) % 64 ≤ 1114111)) then (B0 % 16 * 4096 + byte s (i + 1) % 64 * 64 + byte s (i + 2) % 64, 3) else (65533, 1) := by
          unfold decodeN
          rw [if_neg (by omega), if_neg (by omega), if_pos (by omega)]
        rw [hD]
        by_cases hg : B0 % 16 * 4096 + byte s (i + 1) % 64 * 64 + byte s (i + 2) % 64 ≥ 2048 ∧ (B0 % 16 * 4096 + byte s (i + 1) % 64 * 64 + byte s (i + 2) % 64 < 55296 ∨ (57344 ≤ B0 % 16 * 4096 + byte s (i + 1) % 64 * 64 + byte s (i + 2) % 64 ∧ B0 % 16 * 4096 + byte s (i + 1) % 64 * 64 + byte s (i + 2) % 64 ≤ 1114111))
        · rw [if_pos (by omega), if_pos hg, ofD_good _ _ (.inl (by decide))]
        · rw [if_neg (by omega), if_neg hg, ofD_bad]
      · rw [if_neg t2, bad (by omega), ofD_bad]
    · rw [if_neg t1, bad (by omega), ofD_bad]
  · rw [if_pos (by omega), bad (by omega), ofD_bad]
theorem four_eq (s : ByteArray) (i k B0 : Nat) (hs : s.size ≤ 140737488351232) (hi : i < s.size) (c1 : 240 ≤ B0 ∧ B0 < 248) :
    cardexref01_decode.j2 (k + 6) s (i : Int) ((B0 % 8 : Nat) : Int) 4 65536 = some (ofD (decodeN (s.size - i) B0 (byte s (i + 1)) (byte s (i + 2)) (byte s (i + 3)))) := by
  rw [j2_eq s i hs hi _ _ _ _ (by decide) (by decide)]
  have bad : (¬ (3 < s.size - i ∧ byte s (i + 1) / 64 = 2 ∧ byte s (i + 2) / 64 = 2 ∧ byte s (i + 3) / 64 = 2)) → decodeN (s.size - i) B0 (byte s (i + 1)) (byte s (i + 2)) (byte s (i + 3)) = (65533, 1) := by
    intro h
    unfold decodeN
    rw [if_neg (by omega), if_neg (by omega), if_neg (by omega), if_neg (by omega)]
  by_cases hr : 3 < s.size - i
  · rw [if_neg (by omega), dec_step s i 1 _ _ _ _ hs (by decide) (by omega) (by omega) (by omega)]
    by_cases t1 : byte s (i + 1) / 64 = 2
    · rw [if_pos t1, dec_step s i (1 + 1) _ _ _ _ hs (by decide) (by omega) (by omega) (by omega)]
      rw [show i + (1 + 1) = i + 2 from rfl]
      by_cases t2 : byte s (i + 2) / 64 = 2
      · rw [if_pos t2, dec_step s i (1 + 1 + 1) _ _ _ _ hs (by decide) (by omega) (by omega) (by omega)]
        rw [show i + (1 + 1 + 1) = i + 3 from rfl]
        by_cases t3 : byte s (i + 3) / 64 = 2
        · rw [if_pos t3, dec_end _ _ _ _ _ _ _ (by decide)]
          have hc : ((((B0 % 8 : Nat) : Int) * 64 + ((byte s (i + 1) % 64 : Nat) : Int)) * 64 + ((byte s (i + 2) % 64 : Nat) : Int)) * 64 + ((byte s (i + 3) % 64 : Nat) : Int) = ((B0 % 8 * 262144 + byte s (i + 1) % 64 * 4096 + byte s (i + 2) % 64 * 64 + byte s (i + 3) % 64 : Nat) : Int) := by omega
          rw [hc, show (4 : Int) = ((4 : Nat) : Int) from rfl, decEnd_eq]
          have hD : decodeN (s.size - i) B0 (byte s (i + 1)) (byte s (i + 2)) (byte s (i + 3)) = if B0 % 8 * 262144 + byte s (i + 1) % 64 * 4096 + byte s (i + 2) % 64 * 64 + byte s (i + 3) % 64 ≥ 65536 ∧ (B0 % 8 * 262144 + byte s (i + 1) % 64 * 4096 + byte s (i + 2) % 64 * 64 + byte s (i + 3) % 64 < 55296 ∨ (57344 ≤ B0 % 8 * 262144 + byte s (i + 1) % 64 * 4096 + byte s (i + 2) % 64 * 64 + byte s (i + 3) % 64 ∧ B0 % 8 * 262144 + byte s (i + 1) % 64 * 4096 + byte s (i + 2) % 64 * 64 + byte s (i + 3) % 64 ≤ 1114111)) then (B0 % 8 * 262144 + byte s (i + 1) % 64 * 4096 + byte s (i + 2) % 64 * 64 + byte s (i + 3) % 64, 4) else (65533, 1) := by
            unfold decodeN
            rw [if_neg (by omega), if_neg (by omega), if_neg (by omega), if_pos (by omega)]
          rw [hD]
          by_cases hg : B0 % 8 * 262144 + byte s (i + 1) % 64 * 4096 + byte s (i + 2) % 64 * 64 + byte s (i + 3) % 64 ≥ 65536 ∧ (B0 % 8 * 262144 + byte s (i + 1) % 64 * 4096 + byte s (i + 2) % 64 * 64 + byte s (i + 3) % 64 < 55296 ∨ (57344 ≤ B0 % 8 * 262144 + byte s (i + 1) % 64 * 4096 + byte s (i + 2) % 64 * 64 + byte s (i + 3) % 64 ∧ B0 % 8 * 262144 + byte s (i + 1) % 64 * 4096 + byte s (i + 2) % 64 * 64 + byte s (i + 3) % 64 ≤ 1114111))
          · rw [if_pos (by omega), if_pos hg, ofD_good _ _ (.inl (by decide))]
          · rw [if_neg (by omega), if_neg hg, ofD_bad]
        · rw [if_neg t3, bad (by omega), ofD_bad]
      · rw [if_neg t2, bad (by omega), ofD_bad]
    · rw [if_neg t1, bad (by omega), ofD_bad]
  · rw [if_pos (by omega), bad (by omega), ofD_bad]
set_option maxRecDepth 100000 in
theorem decode_one (s : ByteArray) (i k : Nat) (hs : s.size ≤ 140737488351232) (hi : i < s.size) : cardexref01_decode.f (k + 8) s (i : Int) = some (decP (s.data.toList.drop i)) := by
  have hl : (s.data.toList.drop i).length = s.size - i := by rw [List.length_drop, Array.length_toList]; rfl
  have hg : ∀ j, (s.data.toList.drop i).getD j 0 = s.data.toList.getD (i + j) 0 := fun j => getD_dropU _ _ _
  have b0 := byte_lt s i
  unfold decP
  rw [decodeL_N, hl, hg, hg, hg, hg]
  show _ = some (ofD (decodeN (s.size - i) (byte s i) (byte s (i + 1)) (byte s (i + 2)) (byte s (i + 3))))
  unfold cardexref01_decode.f
  rw [if_pos (by omega), if_pos (by omega), bt_byte, w64 (x := ((byte s i : Nat) : Int)) (by omega) (by omega)]
  obtain ⟨B0, hB⟩ : ∃ B, byte s i = B := ⟨_, rfl⟩
  rw [hB] at b0 ⊢
  by_cases a1 : B0 < 128
  · rw [if_pos (by omega), j2_eq s i hs hi _ _ _ _ (by decide) (by decide), if_neg (by omega), dec_end _ _ _ _ _ _ _ (by decide), decodeN_ascii _ _ _ _ _ a1]
    rw [show (1 : Int) = ((1 : Nat) : Int) from rfl, decEnd_eq, if_pos (by omega), ofD_good _ _ (.inr (by omega))]
  · rw [if_neg (by omega)]
    have m1 : Go.bits .and .i64 ((B0 : Nat) : Int) 31 = ((B0 % 32 : Nat) : Int) := by rw [i64_and31 _ (by omega) (by omega)]; omega
    have m2 : Go.bits .and .i64 ((B0 : Nat) : Int) 15 = ((B0 % 16 : Nat) : Int) := by rw [i64_and15 _ (by omega) (by omega)]; omega
    have m3 : Go.bits .and .i64 ((B0 : Nat) : Int) 7 = ((B0 % 8 : Nat) : Int) := by rw [i64_and7 _ (by omega) (by omega)]; omega
    have hd : (if ((B0 : Nat) : Int) ≥ 192 then cardexref01_decode.j0 (k + 8) s (i : Int) (B0 : Int) (decide (((B0 : Nat) : Int) < 224)) else cardexref01_decode.j0 (k + 8) s (i : Int) (B0 : Int) false) = cardexref01_decode.j0 (k + 8) s (i : Int) (B0 : Int) (decide (192 ≤ B0 ∧ B0 < 224)) := by
      by_cases h : 192 ≤ B0
      · rw [if_pos (by omega)]
        congr 1
        exact decide_eq_decide.2 ⟨fun h1 => ⟨h, by omega⟩, fun h1 => by omega⟩
      · rw [if_neg (by omega), decide_eq_false (by omega)]
    rw [hd, cardexref01_decode.j0]
    by_cases c1 : 192 ≤ B0 ∧ B0 < 224
    · rw [decide_eq_true c1, if_pos rfl, m1]
      exact two_eq s i k B0 hs hi c1
    · rw [decide_eq_false c1, if_neg (by decide)]
      have hd2 : (if ((B0 : Nat) : Int) ≥ 224 then cardexref01_decode.j1 (k + 7) s (i : Int) (B0 : Int) (decide (((B0 : Nat) : Int) < 240)) else cardexref01_decode.j1 (k + 7) s (i : Int) (B0 : Int) false) = cardexref01_decode.j1 (k + 7) s (i : Int) (B0 : Int) (decide (224 ≤ B0 ∧ B0 < 240)) := by
        by_cases h : 224 ≤ B0
        · rw [if_pos (by omega)]
          congr 1
          exact decide_eq_decide.2 ⟨fun h1 => ⟨h, by omega⟩, fun h1 => by omega⟩
        · rw [if_neg (by omega), decide_eq_false (by omega)]
      rw [hd2, cardexref01_decode.j1]
      by_cases c2 : 224 ≤ B0 ∧ B0 < 240
      · rw [decide_eq_true c2, if_pos rfl, m2]
        exact three_eq s i k B0 hs hi c2
      · rw [decide_eq_false c2, if_neg (by decide)]
        by_cases c3 : 240 ≤ B0 ∧ B0 < 248
        · rw [if_pos (by omega), if_pos (by omega), m3]
          exact four_eq s i k B0 hs hi c3
        · have bad : decodeN (s.size - i) B0 (byte s (i + 1)) (byte s (i + 2)) (byte s (i + 3)) = (65533, 1) := by
            unfold decodeN
            rw [if_neg (by omega), if_neg (by omega), if_neg (by omega), if_neg (by omega)]
          rw [bad, ofD_bad]
          by_cases h : ((B0 : Nat) : Int) ≥ 240
          · rw [if_pos h, if_neg (by omega)]
          · rw [if_neg h]
theorem char_eq {c : Int} (h : scal c) : cardexref01_Char.f c = some (mayB c) := by
  obtain ⟨h0, h1, h2⟩ := h
  have e : ∀ b : Bool, (mayB c = b ↔ (c = 9 ∨ c = 10 ∨ c = 13 ∨ (32 ≤ c ∧ c ≤ 65533) ∨ (65536 ≤ c ∧ c ≤ 1114111)) = (b = true)) := by
    intro b
    unfold mayB
    cases b <;> simp [or_assoc] <;> omega
  unfold cardexref01_Char.f
  by_cases a1 : c = 9
  · rw [if_pos a1, (e true).2 (by simp [a1])]
  rw [if_neg a1]
  by_cases a2 : c = 10
  · rw [if_pos a2, (e true).2 (by simp [a2])]
  rw [if_neg a2]
  by_cases a3 : c = 13
  · rw [if_pos a3, (e true).2 (by simp [a3])]
  rw [if_neg a3]
  have hf : ∀ (b : Bool), ((32 ≤ c ∧ c ≤ 65533 ∨ 65536 ≤ c ∧ c ≤ 1114111) ↔ b = true) → mayB c = b := by
    intro b hb
    rw [e b]
    simp only [a1, a2, a3, false_or]
    exact propext hb
  repeat' split
  all_goals (congr 1; refine (hf _ ?_).symm; simp; try omega)
def nextP (l : List UInt8) : Int × Int := if (decP l).2 = 0 then (0, 0) else if mayB (decP l).1 = true then decP l else (0, 0)
theorem next_eq (s : ByteArray) (i k : Nat) (hs : s.size ≤ 140737488351232) (hi : i < s.size) : cardexref01_Next.f (k + 8) s (i : Int) = some (nextP (s.data.toList.drop i)) := by
  unfold cardexref01_Next.f nextP
  rw [decode_one s i k hs hi]
  simp only [Option.bind_some]
  by_cases h : (decP (s.data.toList.drop i)).2 = 0
  · rw [if_pos h, if_pos h]
  · rw [if_neg h, if_neg h]
    have hc : scal (decP (s.data.toList.drop i)).1 := by
      unfold decP ofD
      split
      · exact ⟨by decide, by decide, by decide⟩
      · exact decode_scal _
    rw [char_eq hc]
    simp only [Option.bind_some]
    split <;> rfl
theorem next_good (l : List UInt8) (h : ¬ ((decodeL l).1 = 65533 ∧ (decodeL l).2 = 1)) : nextP l = if mayB ((decodeL l).1 : Int) = true then (((decodeL l).1 : Int), ((decodeL l).2 : Int)) else (0, 0) := by
  have hw := decodeL_width l
  have e : decP l = (((decodeL l).1 : Int), ((decodeL l).2 : Int)) := by
    unfold decP ofD
    rw [if_neg h]
  unfold nextP
  rw [e]
  simp only
  rw [if_neg (by omega)]
theorem next_bad (l : List UInt8) (h : (decodeL l).1 = 65533 ∧ (decodeL l).2 = 1) : nextP l = (0, 0) := by
  unfold nextP decP ofD
  rw [if_pos h]
  rfl
def validAt (s : ByteArray) (i : Nat) : Bool := validD (s.data.toList.drop i) && (runesN s.size (s.data.toList.drop i)).all mayB
theorem valid_end (s : ByteArray) {i : Nat} (h : ¬ i < s.size) : validAt s i = true := by
  unfold validAt
  rw [runes_end s h, List.drop_eq_nil_of_le (by have : s.data.toList.length = s.size := Array.length_toList; omega)]
  rfl
theorem valid_at_step (s : ByteArray) {i : Nat} (h : i < s.size) : validAt s i = if (decodeL (s.data.toList.drop i)).1 = 65533 ∧ (decodeL (s.data.toList.drop i)).2 = 1 then false else mayB ((decodeL (s.data.toList.drop i)).1 : Int) && validAt s (i + (decodeL (s.data.toList.drop i)).2) := by
  unfold validAt
  rw [validD_step _ (drop_ne s h), runes_at s h, ← decodeL_drop, List.drop_drop]
  split
  · rfl
  · rw [List.all_cons]
    cases mayB ((decodeL (s.data.toList.drop i)).1 : Int) <;> simp
theorem valid_loop (s : ByteArray) (hs : s.size ≤ 140737488351232) : ∀ (d i k : Nat), s.size ≤ i + d → i ≤ s.size → cardexref01_Valid.l0 (d + 9 + k) s (i : Int) = some (validAt s i)
  | 0, i, k, hi, hle => by
    rw [show 0 + 9 + k = (8 + k) + 1 by omega, cardexref01_Valid.l0, if_neg (by omega), valid_end s (by omega)]
  | d + 1, i, k, hi, hle => by
    rw [show d + 1 + 9 + k = (d + 9 + k) + 1 by omega, cardexref01_Valid.l0]
    by_cases hlt : i < s.size
    · rw [if_pos (by omega), show d + 9 + k = (d + 1 + k) + 8 by omega, next_eq s i _ hs hlt]
      simp only [Option.bind_some]
      rw [valid_at_step s hlt]
      by_cases hb : (decodeL (s.data.toList.drop i)).1 = 65533 ∧ (decodeL (s.data.toList.drop i)).2 = 1
      · rw [next_bad _ hb, if_pos hb, if_pos rfl]
      · rw [next_good _ hb, if_neg hb]
        have hw := decodeL_width (s.data.toList.drop i)
        have hwl := decodeL_le (s.data.toList.drop i) (drop_ne s hlt)
        rw [List.length_drop, show s.data.toList.length = s.size from Array.length_toList] at hwl
        cases hm : mayB ((decodeL (s.data.toList.drop i)).1 : Int) with
        | false =>
          simp only [Bool.false_eq_true, if_false]
          rw [if_pos trivial]
          rfl
        | true =>
          simp only [if_true]
          rw [if_neg (by omega), w64 (by omega) (by omega)]
          have ih := valid_loop s hs d (i + (decodeL (s.data.toList.drop i)).2) k (by omega) (by omega)
          rw [show (d + 1 + k) + 8 = d + 9 + k by omega, show (i : Int) + ((decodeL (s.data.toList.drop i)).2 : Nat) = ((i + (decodeL (s.data.toList.drop i)).2 : Nat) : Int) by omega, ih]
          rfl
    · rw [if_neg (by omega), valid_end s hlt]
theorem ref_valid (s : ByteArray) (hs : s.size ≤ 140737488351232) (k : Nat) (hk : s.size + 9 ≤ k) : cardexref01_Valid.f k s = some (validT s) := by
  obtain ⟨j, rfl⟩ : ∃ j, k = s.size + 9 + j := ⟨k - (s.size + 9), by omega⟩
  exact valid_loop s hs s.size 0 j (by omega) (by omega)
end Go.Proofs.YtgacmniagmfckaaDoor.P
