/- EscapeNumbers, in plain words: a character by its number, in tens and in sixteens, with noughts ahead, is the same; numbers that are none are refused. -/
import Derived.Test.YtjijbncheikagaaDoorEsc2
namespace Go.Proofs.YtjijbncheikagaaDoor.P
open Go.RowKit Go.Lib Go.Proofs.YtjijbncheikagaaDoorX Go.Proofs.YtjijbncheikagaaDoorW.PrintWords Go.Proofs.YtjijbncheikagaaDoor.Q
set_option linter.unusedVariables false
set_option linter.unusedSimpArgs false

theorem parseG_app (B : Nat) : ∀ (a b : List UInt8) (v : Nat), parseG B v (a ++ b) = (parseG B v a).bind fun x => parseG B x b
  | [], b, v => rfl
  | c :: a, b, v => by
    rw [List.cons_append, parseG, parseG]
    cases digN c.toNat with
    | none => rfl
    | some d =>
      simp only
      by_cases h1 : B ≤ d
      · rw [if_pos h1, if_pos h1]; rfl
      rw [if_neg h1, if_neg h1]
      by_cases h2 : 4294967295 < v * B + d
      · rw [if_pos h2, if_pos h2]; rfl
      rw [if_neg h2, if_neg h2]
      exact parseG_app B a b _
theorem parseG_one (B v d : Nat) (c : UInt8) (h : digN c.toNat = some d) (hd : d < B) (hv : v * B + d ≤ 4294967295) : parseG B v [c] = some (v * B + d) := by
  rw [parseG, h]
  simp only
  rw [if_neg (by omega), if_neg (by omega), parseG]
theorem parseG_zero (B : Nat) (hB : 0 < B) (l : List UInt8) : parseG B 0 (48 :: l) = parseG B 0 l := by
  have h : digN (48 : UInt8).toNat = some 0 := by decide
  rw [parseG, h]
  simp only
  rw [if_neg (by omega), if_neg (by omega), Nat.zero_mul]
theorem dig_low : ∀ n : Fin 256, ∀ d, digN n.val = some d → 48 ≤ n.val ∧ n.val ≤ 122 ∧ n.val ≠ 59 ∧ n.val ≠ 60 := by
  intro n d h
  unfold digN at h
  split at h
  · omega
  · split at h
    · omega
    · split at h
      · omega
      · cases h
theorem parseG_chars (B : Nat) : ∀ (l : List UInt8) (v x : Nat), parseG B v l = some x → ∀ c ∈ l, 48 ≤ c.toNat ∧ c.toNat ≤ 122 ∧ c.toNat ≠ 59 ∧ c.toNat ≠ 60
  | [], _, _, _, c, hc => by cases hc
  | b :: l, v, x, h, c, hc => by
    rw [parseG] at h
    cases hd : digN b.toNat with
    | none => rw [hd] at h; cases h
    | some d =>
      rw [hd] at h
      simp only at h
      by_cases h1 : B ≤ d
      · rw [if_pos h1] at h; cases h
      rw [if_neg h1] at h
      by_cases h2 : 4294967295 < v * B + d
      · rw [if_pos h2] at h; cases h
      rw [if_neg h2] at h
      rcases List.mem_cons.1 hc with rfl | hc
      · exact dig_low ⟨c.toNat, c.toNat_lt⟩ d hd
      · exact parseG_chars B l _ _ h c hc
/-! ### tens -/
theorem tens_ev : ∀ (f n : Nat), n < 10 ^ (f + 1) → f ≤ 8 → ∃ l : List UInt8, l ≠ [] ∧ l.length ≤ f + 1 ∧ parseG 10 0 l = some n ∧ ∀ k, f + 1 ≤ k → cardexhelp_Digits.f k (n : Int) = some (ba l)
  | f, n, hn, hf => by
    have hp : 10 ^ (f + 1) ≤ 10 ^ 9 := Nat.pow_le_pow_right (by decide) (by omega)
    have h9 : (10 : Nat) ^ 9 = 1000000000 := by decide
    have one : ∀ d : Nat, d < 10 → strOfNums [(wrap64 (48 + (d : Int))) % 256] = ba [UInt8.ofNat (48 + d)] ∧ digN (UInt8.ofNat (48 + d)).toNat = some d := by
      intro d hd
      have : ∀ d : Fin 10, strOfNums [(wrap64 (48 + ((d.val : Nat) : Int))) % 256] = ba [UInt8.ofNat (48 + d.val)] ∧ digN (UInt8.ofNat (48 + d.val)).toNat = some d.val := by decide +kernel
      exact this ⟨d, hd⟩
    by_cases h : n < 10
    · refine ⟨[UInt8.ofNat (48 + n)], by simp, by simp, ?_, fun k hk => ?_⟩
      · have := parseG_one 10 0 n _ (one n h).2 h (by omega)
        rw [Nat.zero_mul, Nat.zero_add] at this
        exact this
      · obtain ⟨k, rfl⟩ : ∃ j, k = j + 1 := ⟨k - 1, by omega⟩
        rw [cardexhelp_Digits.f, if_pos (by omega), show mx 0 (n : Int) = (n : Int) by unfold mx; split <;> omega, (one n h).1]
    · match f, hn, hf with
      | 0, hn, hf => exact absurd hn (by omega)
      | f + 1, hn, hf =>
        obtain ⟨l, h1, h2, h3, h4⟩ := tens_ev f (n / 10) (by rw [Nat.pow_succ] at hn; omega) (by omega)
        refine ⟨l ++ [UInt8.ofNat (48 + n % 10)], by simp, by simp; omega, ?_, fun k hk => ?_⟩
        · rw [parseG_app, h3]
          simp only [Option.bind_some]
          rw [parseG_one 10 (n / 10) (n % 10) _ (one _ (Nat.mod_lt _ (by decide))).2 (Nat.mod_lt _ (by decide)) (by omega)]
          congr 1; omega
        · obtain ⟨k, rfl⟩ : ∃ j, k = j + 1 := ⟨k - 1, by omega⟩
          have e1 : Int.tdiv (n : Int) 10 = ((n / 10 : Nat) : Int) := by rw [Int.tdiv_eq_ediv_of_nonneg (by omega)]; omega
          have e2 : Int.tmod (n : Int) 10 = ((n % 10 : Nat) : Int) := by rw [Int.tmod_eq_emod_of_nonneg (by omega)]; omega
          rw [cardexhelp_Digits.f, if_neg (by omega), e1, e2, wrap_small (by omega) (by omega), h4 k (by omega)]
          simp only [Option.bind_some]
          rw [(one _ (Nat.mod_lt _ (by decide))).1, if_pos (by rw [ba_size, ba_size]; simp only [List.length_cons, List.length_nil]; omega), ba_append]
/-! ### sixteens -/
theorem small_nat (x : Nat) (h : x < 20000000) : wrap64 (x : Int) = x := wrap_small (by omega) (by omega)
theorem small_nat1 (x : Nat) (h : x < 20000000) : wrap64 ((x : Int) + 1) = (x : Int) + 1 := wrap_small (by omega) (by omega)
def hexD (d : Nat) : UInt8 := ([48, 49, 50, 51, 52, 53, 54, 55, 56, 57, 97, 66, 99, 68, 101, 70] : List UInt8).getD d 0
def hexL : Nat → Nat → List UInt8
  | 0, _ => []
  | f + 1, v => if v = 0 then [] else hexL f (v / 16) ++ [hexD (v % 16)]
theorem hexD_eq : ∀ d : Fin 16, digN (hexD d.val).toNat = some d.val ∧ (⟨#[48, 49, 50, 51, 52, 53, 54, 55, 56, 57, 97, 66, 99, 68, 101, 70]⟩ : ByteArray).extract d.val (d.val + 1) = ba [hexD d.val] := by decide +kernel
theorem hexL_len : ∀ f v, (hexL f v).length ≤ f
  | 0, _ => by simp [hexL]
  | f + 1, v => by
    have := hexL_len f (v / 16)
    unfold hexL
    split
    · simp
    · simp; omega
theorem hexL_parse : ∀ (f v : Nat), v < 16 ^ f → f ≤ 6 → parseG 16 0 (hexL f v) = some v
  | 0, v, h, _ => by
    have : v = 0 := by simpa using h
    subst this; rfl
  | f + 1, v, h, hf => by
    have hp : 16 ^ (f + 1) ≤ 16 ^ 6 := Nat.pow_le_pow_right (by decide) hf
    have h6 : (16 : Nat) ^ 6 = 16777216 := by decide
    unfold hexL
    by_cases h0 : v = 0
    · rw [if_pos h0, h0]; rfl
    rw [if_neg h0, parseG_app, hexL_parse f (v / 16) (by rw [Nat.pow_succ] at h; omega) (by omega)]
    simp only [Option.bind_some]
    rw [parseG_one 16 (v / 16) (v % 16) _ (hexD_eq ⟨v % 16, Nat.mod_lt _ (by decide)⟩).1 (Nat.mod_lt _ (by decide)) (by omega)]
    congr 1; omega
theorem hex_step (n m : Int) (k v : Nat) (acc : List UInt8) (hv : 0 < v) (hv7 : v < 20000000) (hl : acc.length ≤ 100) : cardexlaw02_EscapeNumbers.l0 (k + 1) n m (ba acc) (v : Int) = cardexlaw02_EscapeNumbers.l0 k n m (ba ([hexD (v % 16)] ++ acc)) ((v / 16 : Nat) : Int) := by
  have e1 : Int.tdiv (v : Int) 16 = ((v / 16 : Nat) : Int) := by rw [Int.tdiv_eq_ediv_of_nonneg (by omega)]; omega
  have e2 : Int.tmod (v : Int) 16 = ((v % 16 : Nat) : Int) := by rw [Int.tmod_eq_emod_of_nonneg (by omega)]; omega
  have hx := (hexD_eq ⟨v % 16, Nat.mod_lt _ (by decide)⟩).2
  simp only at hx
  have hm : v % 16 < 16 := Nat.mod_lt _ (by decide)
  have w1 : wrap64 (((v % 16 : Nat) : Int) + 1) = ((v % 16 + 1 : Nat) : Int) := by rw [wrap_small (by omega) (by omega)]; omega
  have w2 : wrap64 ((v / 16 : Nat) : Int) = ((v / 16 : Nat) : Int) := wrap_small (by omega) (by omega)
  rw [cardexlaw02_EscapeNumbers.l0, if_pos (by omega), e2, e1, w1, w2, if_pos (by omega), if_pos (by omega), if_pos (by omega), Int.toNat_natCast, Int.toNat_natCast, hx]
  simp only [Option.bind_some]
  rw [if_pos (by rw [ba_size, ba_size]; simp only [List.length_cons, List.length_nil]; omega), ba_append]
theorem hex_ev (n m : Int) : ∀ (f v : Nat) (acc : List UInt8), v < 16 ^ f → v < 20000000 → (v = 0 → acc ≠ []) → acc.length + f ≤ 100 → (∃ K, ∀ k, K ≤ k → ((cardexhelp_Digits.f k n).bind fun t => cardexlaw02_EscapeNumbers.l1 k n m (ba (hexL f v ++ acc)) t 0) = some true) → ∃ K, ∀ k, K ≤ k → cardexlaw02_EscapeNumbers.l0 k n m (ba acc) (v : Int) = some true
  | f, v, acc, hv, hf, h0, hl, hF => by
    by_cases h : v = 0
    · subst h
      have e : hexL f 0 = [] := by
        match f with
        | 0 => rfl
        | f + 1 => unfold hexL; rw [if_pos rfl]
      rw [e, List.nil_append] at hF
      obtain ⟨K, hK⟩ := hF
      refine ⟨K + 1, fun k hk => ?_⟩
      obtain ⟨k, rfl⟩ : ∃ j, k = j + 1 := ⟨k - 1, by omega⟩
      rw [cardexlaw02_EscapeNumbers.l0, if_neg (by decide), if_neg (by rw [ba_toList]; exact h0 rfl)]
      exact hK k (by omega)
    · match f, hv, hl, hF with
      | 0, hv, hl, hF => exact absurd hv (by rw [Nat.pow_zero]; omega)
      | f + 1, hv, hl, hF =>
        unfold hexL at hF
        rw [if_neg h, List.append_assoc] at hF
        have hv' : v / 16 < 16 ^ f := Nat.div_lt_of_lt_mul (by rw [Nat.mul_comm, ← Nat.pow_succ]; exact hv)
        clear hv
        have hne : (v / 16 = 0 → [hexD (v % 16)] ++ acc ≠ []) := fun _ h => by cases h
        have hl2 : ([hexD (v % 16)] ++ acc).length + f ≤ 100 := by rw [List.length_append, List.length_singleton]; omega
        obtain ⟨K, hK⟩ := hex_ev n m f (v / 16) ([hexD (v % 16)] ++ acc) hv' (Nat.lt_of_le_of_lt (Nat.div_le_self v 16) hf) hne hl2 hF
        refine ⟨K + 1, fun k hk => ?_⟩
        obtain ⟨k, rfl⟩ : ∃ j, k = j + 1 := ⟨k - 1, by omega⟩
        rw [hex_step n m k v acc (Nat.pos_of_ne_zero h) hf (by omega)]
        exact hK k (by omega)
/-! ### back -/
/-- Two numbers that are the same, in sixteens and in tens. -/
structure Same2 (n : Nat) (hex tens : List UInt8) : Prop where
  h0 : hex ≠ []
  h1 : hex.length ≤ 6
  h2 : parseG 16 0 hex = some n
  t0 : tens ≠ []
  t1 : tens.length ≤ 7
  t2 : parseG 10 0 tens = some n
theorem valid_plain (z : List UInt8) (hall : ∀ c ∈ z, 32 ≤ c.toNat ∧ c.toNat < 128) : validT (ba z) = true := by
  have e : wrs (z.map (fun b => (b.toNat : Int))) = z := by
    induction z with
    | nil => rfl
    | cons b t ih =>
      have := hall b (.head _)
      rw [List.map_cons, wrs_cons, ih (fun c hc => hall c (.tail _ hc)), enc_ascii (by omega) (by omega), Int.toNat_natCast, UInt8.ofNat_toNat]; rfl
  have := validT_wrs (z.map (fun b => (b.toNat : Int))) (fun c hc => by
    obtain ⟨b, hb, rfl⟩ := List.mem_map.1 hc
    have := hall b hb
    exact ⟨by omega, by omega, .inl (by omega)⟩)
  rw [e] at this
  rw [this, List.all_eq_true]
  intro c hc
  obtain ⟨b, hb, rfl⟩ := List.mem_map.1 hc
  have := hall b hb
  unfold mayB
  simp only [Bool.or_eq_true, Bool.and_eq_true, decide_eq_true_eq, beq_iff_eq]
  left; right; omega
theorem back_valid (pre l : List UInt8) (hpc : ∀ c ∈ pre, (c.toNat = 35 ∨ c.toNat = 120)) (hc : ∀ c ∈ l, 48 ≤ c.toNat ∧ c.toNat ≤ 122 ∧ c.toNat ≠ 59 ∧ c.toNat ≠ 60) : validT (ba ([120, 38] ++ pre ++ l ++ [59, 121])) = true := by
  refine valid_plain _ ?_
  intro c h
  rcases List.mem_append.1 h with h | h
  · rcases List.mem_append.1 h with h | h
    · rcases List.mem_append.1 h with h | h
      · rcases List.mem_cons.1 h with rfl | h
        · decide
        · rw [List.mem_singleton.1 h]; decide
      · have := hpc _ h; omega
    · have := hc _ h; omega
  · rcases List.mem_cons.1 h with rfl | h
    · decide
    · rw [List.mem_singleton.1 h]; decide
theorem back_mach (q : List UInt8) (h59 : (59 : UInt8) ∉ q) : backM none ([120, 38] ++ q ++ [59, 121]) = if sgnL q = [] then none else some ([120] ++ (sgnL q ++ [121])) := by
  have e : ∀ r, backM none (38 :: r) = backM (some []) r := fun r => by rw [backM, if_neg (by decide), if_pos rfl]
  have e2 : ([120, 38] ++ q ++ [59, 121] : List UInt8) = [120] ++ (38 :: (q ++ 59 :: [121])) := by
    rw [List.append_assoc]; rfl
  rw [e2, backM_plain [120] _ (by decide) (by decide), e, backM_name q [121] [] h59, List.nil_append]
  by_cases h : sgnL q = []
  · rw [if_pos h, if_pos h]; rfl
  · rw [if_neg h, if_neg h]; rfl
theorem back_num (n : Nat) (pre : List UInt8) (l : List UInt8) (B : Nat) (hp : parseG B 0 l = some n) (hpc : ∀ c ∈ pre, (c.toNat = 35 ∨ c.toNat = 120)) (hs : sgnL (pre ++ l) = (if Lib.validRune (n : Int) = true ∧ mayB (n : Int) = true then Utf8.encode (n : Int) else ⟨#[]⟩).data.toList) :
    backT (ba ([120, 38] ++ pre ++ l ++ [59, 121])) = if Lib.validRune (n : Int) = true ∧ mayB (n : Int) = true then (ba ([120] ++ enc n ++ [121]), 0) else (⟨#[]⟩, 5) := by
  have hc := parseG_chars B l 0 n hp
  have h59 : (59 : UInt8) ∉ pre ++ l := by
    intro h
    rcases List.mem_append.1 h with h | h
    · have := hpc _ h; revert this; decide
    · exact (hc _ h).2.2.1 rfl
  have hm := back_mach (pre ++ l) h59
  rw [← List.append_assoc] at hm
  unfold backT
  rw [if_pos (back_valid pre l hpc hc), ba_list, hm, hs]
  by_cases h : Lib.validRune (n : Int) = true ∧ mayB (n : Int) = true
  · rw [if_pos h, if_pos h]
    have hsc : scal (n : Int) := by
      by_cases h2 : scal (n : Int)
      · exact h2
      · rw [not_scal h2] at h; exact absurd h.1 (by decide)
    rw [low_enc, ba_list, if_neg (enc_ne hsc)]
    generalize enc (n : Int) = z
    show ((⟨#[]⟩ : ByteArray) ++ ba ([120] ++ (z ++ [121])), (0 : Int)) = _
    rw [show (⟨#[]⟩ : ByteArray) = ba [] from rfl, ba_append, List.nil_append, List.append_assoc]
  · rw [if_neg h, if_neg h]
    have : (⟨#[]⟩ : ByteArray).data.toList = [] := rfl
    rw [this, if_pos rfl]
    unfold resM
    rfl
theorem sgnL_hex (h : List UInt8) : sgnL (35 :: 120 :: h) = (numR 16 6 (ba h)).data.toList := by
  unfold sgnL
  rw [if_neg (by intro e; injection e with e _; revert e; decide), if_neg (by intro e; injection e with e _; revert e; decide), if_neg (by intro e; injection e with e _; revert e; decide), if_neg (by intro e; injection e with e _; revert e; decide), if_neg (by intro e; injection e with e _; revert e; decide)]
  rfl
theorem sgnL_dec (d : List UInt8) (hn : ∀ t, d ≠ 120 :: t) : sgnL (35 :: d) = (numR 10 7 (ba d)).data.toList := by
  unfold sgnL
  rw [if_neg (by intro e; injection e with e _; revert e; decide), if_neg (by intro e; injection e with e _; revert e; decide), if_neg (by intro e; injection e with e _; revert e; decide), if_neg (by intro e; injection e with e _; revert e; decide), if_neg (by intro e; injection e with e _; revert e; decide)]
  match d, hn with
  | [], _ => rfl
  | b :: t, hn =>
    split
    · rename_i e; injection e with _ e; exact absurd e (hn _)
    · rename_i e; injection e with _ e; subst e; rfl
    · rename_i e; exact absurd rfl (e _)
theorem num_end (n : Nat) (hn : n < 1200000) (hex tens : List UInt8) (h : Same2 n hex tens) (k : Nat) : cardexlaw02_EscapeNumbers.j2 (k + 1) (n : Int) (ba hex) (ba tens) = some true := by
  obtain ⟨h0, h1, h2, t0, t1, t2⟩ := h
  have e1 : sgnL ([35] ++ tens) = (if Lib.validRune (n : Int) = true ∧ mayB (n : Int) = true then Utf8.encode (n : Int) else ⟨#[]⟩).data.toList := by
    have hn120 : ∀ t, tens ≠ 120 :: t := by
      rintro t rfl
      rw [parseG, show digN (120 : UInt8).toNat = some 33 by decide] at t2
      simp only at t2
      rw [if_pos (by decide)] at t2
      cases t2
    rw [show [35] ++ tens = 35 :: tens from rfl, sgnL_dec tens hn120, numR_some 10 7 tens n (by omega) (by unfold parseN; rw [if_neg t0, t2])]
  have e2 : sgnL ([35, 120] ++ hex) = (if Lib.validRune (n : Int) = true ∧ mayB (n : Int) = true then Utf8.encode (n : Int) else ⟨#[]⟩).data.toList := by
    rw [show [35, 120] ++ hex = 35 :: 120 :: hex from rfl, sgnL_hex hex, numR_some 16 6 hex n (by omega) (by unfold parseN; rw [if_neg h0, h2])]
  have b1 := back_num n [35] tens 10 t2 (by intro c hc; left; rw [List.mem_singleton.1 hc]; rfl) e1
  have b2 := back_num n [35, 120] hex 16 h2 (by
    intro c hc
    rcases List.mem_cons.1 hc with rfl | hc
    · left; rfl
    · right; rw [List.mem_singleton.1 hc]; rfl) e2
  have hw : wrap32 (n : Int) = n := by unfold wrap32; omega
  have hch := char_any n
  have f1 : escape_Back.f (ba ([120, 38] ++ [35] ++ tens ++ [59, 121])) = some (backT (ba ([120, 38] ++ [35] ++ tens ++ [59, 121]))) := back_f _ (by rw [ba_size]; simp; omega)
  have f2 : escape_Back.f (ba ([120, 38] ++ [35, 120] ++ hex ++ [59, 121])) = some (backT (ba ([120, 38] ++ [35, 120] ++ hex ++ [59, 121]))) := back_f _ (by rw [ba_size]; simp; omega)
  rw [b1] at f1
  rw [b2] at f2
  have hes : scal (n : Int) → Utf8.encode (n : Int) = ba (enc n) ∧ (enc n).length ≤ 4 := fun h => ⟨low_enc _, (enc_len h).2⟩
  have hsc : (Lib.validRune (n : Int) = true ∧ mayB (n : Int) = true) → scal (n : Int) := by
    intro hc
    by_cases h2 : scal (n : Int)
    · exact h2
    · rw [not_scal h2] at hc; exact absurd hc.1 (by decide)
  clear b1 b2 e1 e2
  rw [cardexlaw02_EscapeNumbers.j2, ba_size, ba_size, if_pos (by omega), hw]
  generalize hE : Utf8.encode (n : Int) = E at *
  generalize hZ : enc (n : Int) = Z at *
  rw [show ((⟨#[120, 38, 35]⟩ : ByteArray) ++ ba tens) = ba ([120, 38] ++ [35] ++ tens) by rw [show (⟨#[120, 38, 35]⟩ : ByteArray) = ba [120, 38, 35] from rfl, ba_append]; rfl, show ((⟨#[120, 38, 35, 120]⟩ : ByteArray) ++ ba hex) = ba ([120, 38] ++ [35, 120] ++ hex) by rw [show (⟨#[120, 38, 35, 120]⟩ : ByteArray) = ba [120, 38, 35, 120] from rfl, ba_append]; rfl]
  rw [show (⟨#[59, 121]⟩ : ByteArray) = ba [59, 121] from rfl, ba_append, ba_append, if_pos (by rw [ba_size]; simp; omega)]
  by_cases hc : Lib.validRune (n : Int) = true ∧ mayB (n : Int) = true
  · rw [if_pos hc] at f1 f2
    rw [hc.1, hc.2, Bool.and_self] at hch
    obtain ⟨rfl, hlen⟩ := hes (hsc hc)
    rw [f1, Option.bind_some, if_pos (by omega), if_pos (by rw [ba_size]; simp; omega), f2, Option.bind_some, hch, Option.bind_some, if_pos rfl, awake2, Option.bind_some]
    iterate 6 (try rw [if_pos rfl])
    rw [if_pos (by rw [ba_size]; omega), show (⟨#[120]⟩ : ByteArray) = ba [120] from rfl, show (⟨#[121]⟩ : ByteArray) = ba [121] from rfl, ba_append, ba_append, if_pos (by rw [ba_size, List.length_append, List.length_singleton]; omega), if_pos rfl]
  · rw [if_neg hc] at f1 f2
    have hch2 : cardexref01_Char.f (n : Int) = some false := by
      rw [hch]
      cases h1 : Lib.validRune (n : Int) with
      | false => rfl
      | true =>
        cases h2 : mayB (n : Int) with
        | false => rfl
        | true => exact absurd ⟨h1, h2⟩ hc
    rw [f1, Option.bind_some, if_pos (by omega), if_pos (by rw [ba_size]; simp; omega), f2, Option.bind_some, hch2, Option.bind_some, if_neg (by decide), awake2, Option.bind_some, if_pos rfl, if_pos rfl, if_pos rfl]
theorem num_noughts (n : Nat) (hn : n < 1200000) : ∀ (d : Nat) (m i : Int) (hex tens : List UInt8), Same2 n hex tens → 0 ≤ i → i + (d : Int) = m → m ≤ 100 → ∀ k, d + 2 ≤ k → cardexlaw02_EscapeNumbers.l1 k (n : Int) m (ba hex) (ba tens) i = some true
  | 0, m, i, hex, tens, h, hi, hm, h100, k, hk => by
    obtain ⟨k, rfl⟩ : ∃ j, k = j + 2 := ⟨k - 2, by omega⟩
    rw [cardexlaw02_EscapeNumbers.l1, if_neg (by omega), num_end n hn hex tens h]
  | d + 1, m, i, hex, tens, h, hi, hm, h100, k, hk => by
    obtain ⟨k, rfl⟩ : ∃ j, k = j + 2 := ⟨k - 2, by omega⟩
    rw [cardexlaw02_EscapeNumbers.l1, if_pos (by omega), ba_size, ba_size]
    by_cases c1 : ((tens.length : Nat) : Int) < 7
    · rw [if_pos c1]
      by_cases c2 : ((hex.length : Nat) : Int) < 6
      · rw [if_pos c2, if_pos (by omega), if_pos (by omega), show (⟨#[48]⟩ : ByteArray) = ba [48] from rfl, ba_append, ba_append, wrap_small (by omega) (by omega)]
        obtain ⟨h0, h1, h2, t0, t1, t2⟩ := h
        exact num_noughts n hn d m (i + 1) (48 :: hex) (48 :: tens) ⟨by simp, by simp; omega, by rw [parseG_zero 16 (by decide), h2], by simp, by simp; omega, by rw [parseG_zero 10 (by decide), t2]⟩ (by omega) (by omega) h100 (k + 1) (by omega)
      · rw [if_neg c2, num_end n hn hex tens h]
    · rw [if_neg c1, num_end n hn hex tens h]
theorem u64_mod (a M : Int) (hM : 0 < M) (hM2 : M ≤ 1200000) : ∃ n : Nat, wrap64 (Int.tmod (IntKind.u64.wrap a) M) = (n : Int) ∧ (n : Int) < M := by
  have h0 : 0 ≤ IntKind.u64.wrap a := by rw [IntKind.wrap_u64]; omega
  have h1 : Int.tmod (IntKind.u64.wrap a) M = IntKind.u64.wrap a % M := Int.tmod_eq_emod_of_nonneg h0
  have h2 := Int.emod_nonneg (IntKind.u64.wrap a) (show M ≠ 0 by omega)
  have h3 := Int.emod_lt_of_pos (IntKind.u64.wrap a) hM
  rw [h1, wrap_small (by omega) (by omega)]
  exact ⟨(IntKind.u64.wrap a % M).toNat, by omega, by omega⟩
theorem escapeNumbers (a b : Int) (ha : (Lit.int .i64 a).wf = true) (hb : (Lit.int .i64 b).wf = true) : ∃ k, cardexlaw02_EscapeNumbers.f k a b = some true := by
  obtain ⟨n, e1, hn⟩ := u64_mod a 1200000 (by decide) (by decide)
  obtain ⟨m, e2, hm⟩ := u64_mod b 3 (by decide) (by decide)
  unfold cardexlaw02_EscapeNumbers.f
  rw [e1, e2]
  obtain ⟨tens, t1, t2, t3, t4⟩ := tens_ev 6 n (by have : (10 : Nat) ^ 7 = 10000000 := by decide
                                                   omega) (by decide)
  have go : ∀ hex : List UInt8, hex ≠ [] → hex.length ≤ 6 → parseG 16 0 hex = some n → ∃ K, ∀ k, K ≤ k → ((cardexhelp_Digits.f k (n : Int)).bind fun t => cardexlaw02_EscapeNumbers.l1 k (n : Int) (m : Int) (ba hex) t 0) = some true := by
    intro hex g1 g2 g3
    refine ⟨20, fun k hk => ?_⟩
    rw [t4 k (by omega)]
    exact num_noughts n (by omega) m m 0 hex tens ⟨g1, g2, g3, t1, by omega, t3⟩ (by omega) (by omega) (by omega) k (by omega)
  by_cases h0 : n = 0
  · subst h0
    obtain ⟨K, hK⟩ := hex_ev (0 : Nat) m 0 0 [48] (by decide) (by decide) (fun _ => by simp) (by simp) (go [48] (by simp) (by simp) (by decide))
    refine ⟨K + 1, ?_⟩
    rw [cardexlaw02_EscapeNumbers.l0, if_neg (by decide), if_pos (by rw [ByteArray.toList_eq])]
    have z1 : Int.tmod ((0 : Nat) : Int) 16 = 0 := by decide
    have z2 : Int.tdiv ((0 : Nat) : Int) 16 = 0 := by decide
    have z3 : wrap64 (0 + 1) = 1 := by unfold wrap64; omega
    have z4 : wrap64 0 = 0 := by unfold wrap64; omega
    rw [z1, z2, z3, z4, if_pos (by decide), if_pos (by decide), if_pos (by decide)]
    simp only [Option.bind_some]
    rw [if_pos (by decide)]
    exact hK K (Nat.le_refl _)
  · have h6 : (16 : Nat) ^ 6 = 16777216 := by decide
    have hne : hexL 6 n ≠ [] := by
      unfold hexL
      rw [if_neg h0]; simp
    obtain ⟨K, hK⟩ := hex_ev n m 6 n [] (by omega) (by omega) (fun h => absurd h h0) (by simp) (by rw [List.append_nil]; exact go _ hne (hexL_len 6 n) (hexL_parse 6 n (by omega) (by decide)))
    exact ⟨K, hK K (Nat.le_refl _)⟩
end Go.Proofs.YtjijbncheikagaaDoor.P
