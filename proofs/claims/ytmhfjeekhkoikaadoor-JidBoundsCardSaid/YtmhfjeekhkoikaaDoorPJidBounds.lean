/- JidBounds, in plain words: each part so long, and no longer; signs that part, parts that are not there. -/
import Derived.Test.YtmhfjeekhkoikaaDoorJidW
namespace Go.Proofs.YtmhfjeekhkoikaaDoor.P
open Go.RowKit Go.Lib Go.Proofs.YtmhfjeekhkoikaaDoorX Go.Proofs.YtmhfjeekhkoikaaDoorW.PrintWords Go.Proofs.YtmhfjeekhkoikaaDoor.Q

def rep (n : Nat) : List UInt8 := List.replicate n 97
theorem rep_len (n : Nat) : (rep n).length = n := by unfold rep; simp
theorem rep_word (n : Nat) : Word (rep n) := by
  intro b hb
  rw [List.eq_of_mem_replicate hb]
  decide
theorem rep_loop (n : Nat) (hn : n ≤ 1000) : ∀ (d i k : Nat), i + d = n → d < k → cardexlaw07_JidBounds_1.l0 k (n : Int) (ba (rep i)) (i : Int) = some (ba (rep n))
  | 0, i, k, hi, hk => by
    obtain ⟨k, rfl⟩ : ∃ j, k = j + 1 := ⟨k - 1, by omega⟩
    rw [cardexlaw07_JidBounds_1.l0, if_neg (by omega)]
    rw [show i = n by omega]
  | d + 1, i, k, hi, hk => by
    obtain ⟨k, rfl⟩ : ∃ j, k = j + 1 := ⟨k - 1, by omega⟩
    have e : (⟨#[97]⟩ : ByteArray) = ba [97] := rfl
    have e2 : rep i ++ [97] = rep (i + 1) := by unfold rep; exact List.replicate_succ'.symm
    rw [cardexlaw07_JidBounds_1.l0, if_pos (by omega), if_pos (by rw [ba_size, rep_len]; omega), e, ba_append, e2, wrap_small (x := (i : Int) + 1) (by omega) (by omega)]
    have := rep_loop n hn d (i + 1) k (by omega) (by omega)
    rw [show ((i + 1 : Nat) : Int) = (i : Int) + 1 by omega] at this
    exact this
theorem rep_ev (n k : Nat) (hn : n ≤ 1000) (hk : n < k) : cardexlaw07_JidBounds_1.f k (n : Int) = some (ba (rep n)) := rep_loop n hn n 0 k (by omega) hk
theorem word_domP {l : List UInt8} (h : Word l) (hn : l ≠ []) : domP (ba l) = if 100 < l.length then (ba [], 14) else (ba l, 0) := by
  have e := wrs_nums l (word_lt h)
  have hof := of_fix (word_host h)
  rw [e] at hof
  have h46 : (46 : UInt8) ∉ l := fun e => by have := h _ e; revert this; decide
  have ht : trimDot l = l := by
    unfold trimDot
    rw [if_neg (fun e => h46 (List.mem_of_getLast? e))]
  unfold domP
  rw [hof]
  simp only [if_true]
  rw [ba_list, ht, word_right h hn]
  rfl
theorem word_nodeP {l : List UInt8} (h : Word l) (hn : l ≠ []) : nodeP l true = if 64 < l.length then (ba [], 14) else (ba l, 0) := by
  have e := wrs_nums l (word_lt h)
  have hof := of_fix (word_node h)
  rw [e] at hof
  have := List.length_pos_iff.2 hn
  unfold nodeP keptR
  rw [hof]
  simp only [if_true]
  by_cases hl : 64 < l.length
  · rw [if_pos hl, if_pos ⟨trivial, .inr (by rw [ba_size]; omega)⟩]; rfl
  · rw [if_neg hl, if_neg (by rw [ba_size]; omega)]
theorem word_resP {l : List UInt8} (h : Word l) (hn : l ≠ []) : resP l true = if 64 < l.length then (ba [], 14) else (ba l, 0) := by
  obtain ⟨L, hL, hf⟩ := res_word (x := []) h (by decide)
  rw [List.append_nil] at hL
  have hof := of_fix hf
  rw [← hL] at hof
  have := List.length_pos_iff.2 hn
  unfold resP keptR
  rw [hof]
  simp only [if_true]
  by_cases hl : 64 < l.length
  · rw [if_pos hl, if_pos ⟨trivial, .inr (by rw [ba_size]; omega)⟩]; rfl
  · rw [if_neg hl, if_neg (by rw [ba_size]; omega)]
theorem long_parse {a b c : List UInt8} (ha : Word a) (hb : Word b) (hc : Word c) (na : a ≠ []) (nb : b ≠ []) (nc : c ≠ []) :
    (parseL (a ++ [64] ++ b ++ [47] ++ c)).2.2.2 = if a.length ≤ 64 ∧ b.length ≤ 100 ∧ c.length ≤ 64 then 0 else 14 := by
  have no : ∀ {l : List UInt8}, Word l → (47 : UInt8) ∉ l ∧ (64 : UInt8) ∉ l := fun {l} h => ⟨fun e => by have := h _ e; revert this; decide, fun e => by have := h _ e; revert this; decide⟩
  have ht : a ++ [64] ++ b ++ [47] ++ c = textL a b c := by unfold textL; rw [if_neg na, if_neg nc]; simp
  have hp := parts_text a b c (no ha).1 (no ha).2 (no hb).1 (no hb).2
  rw [decide_eq_false na, decide_eq_false nc] at hp
  rw [ht]
  unfold parseL
  rw [hp]
  simp only [Bool.not_false]
  rw [word_domP hb nb, word_nodeP ha na, word_resP hc nc]
  by_cases h1 : 100 < b.length
  · have hn : ¬ (a.length ≤ 64 ∧ b.length ≤ 100 ∧ c.length ≤ 64) := by omega
    rw [if_neg hn, if_pos h1]
    simp
  · by_cases h2 : 64 < a.length
    · have hn : ¬ (a.length ≤ 64 ∧ b.length ≤ 100 ∧ c.length ≤ 64) := by omega
      rw [if_neg hn, if_neg h1, if_pos h2]
      simp
    · by_cases h3 : 64 < c.length
      · have hn : ¬ (a.length ≤ 64 ∧ b.length ≤ 100 ∧ c.length ≤ 64) := by omega
        rw [if_neg hn, if_neg h1, if_neg h2, if_pos h3]
        simp
      · have hn : a.length ≤ 64 ∧ b.length ≤ 100 ∧ c.length ≤ 64 := by omega
        rw [if_pos hn, if_neg h1, if_neg h2, if_neg h3]
        simp
def bads : List ByteArray := [(⟨#[]⟩ : ByteArray), (⟨#[64, 97]⟩ : ByteArray), (⟨#[97, 64]⟩ : ByteArray), (⟨#[97, 47]⟩ : ByteArray), (⟨#[47, 97]⟩ : ByteArray), (⟨#[97, 64, 64, 98]⟩ : ByteArray), (⟨#[97, 64, 45, 98]⟩ : ByteArray), (⟨#[97, 64, 98, 45]⟩ : ByteArray), (⟨#[97, 64, 98, 46, 46, 99]⟩ : ByteArray), (⟨#[97, 64, 46, 98]⟩ : ByteArray), (⟨#[46]⟩ : ByteArray), (⟨#[97, 64, 98, 47]⟩ : ByteArray)]
def wants : List Int := [14, 14, 14, 14, 14, 15, 14, 14, 14, 14, 14, 14]
theorem bad_all : ∀ j : Fin 12, (parseL (bads.getD j.val ByteArray.empty).data.toList).2.2.2 = wants.getD j.val 0 := by decide +kernel
theorem bad_ev (j : Int) (h0 : 0 ≤ j) (h1 : j < 12) : ∃ K, ∃ a b c, ∀ k, K ≤ k → jid_Parse.f k (rdOf ByteArray.empty bads j) = some (a, b, c, rd wants j) := by
  have hsz : (rdOf ByteArray.empty bads j).size ≤ 6 := by
    have : ∀ i : Fin 12, (bads.getD i.val ByteArray.empty).size ≤ 6 := by decide +kernel
    exact this ⟨j.toNat, by omega⟩
  obtain ⟨K, hK⟩ := parse_ev (rdOf ByteArray.empty bads j) (by omega)
  have := bad_all ⟨j.toNat, by omega⟩
  have e1 : (parseL (rdOf ByteArray.empty bads j).data.toList).2.2.2 = rd wants j := this
  obtain ⟨⟨a, b, c, e⟩, hp⟩ : ∃ p, parseL (rdOf ByteArray.empty bads j).data.toList = p := ⟨_, rfl⟩
  rw [hp] at e1 hK
  simp only at e1
  exact ⟨K, a, b, c, fun k hk => by rw [hK k hk, e1]⟩
theorem mod_range (n : Int) (m : Int) (hm : 0 < m) (hm2 : m ≤ 100) : 0 ≤ wrap64 (Int.tmod (IntKind.u64.wrap n) m) ∧ wrap64 (Int.tmod (IntKind.u64.wrap n) m) < m := by
  have hu : 0 ≤ IntKind.u64.wrap n := by
    have e : IntKind.u64.wrap n = n % 18446744073709551616 := by simp [IntKind.wrap, IntKind.signed, IntKind.bits]
    rw [e]
    exact Int.emod_nonneg _ (by decide)
  rw [Int.tmod_eq_emod_of_nonneg hu]
  have h1 : 0 ≤ IntKind.u64.wrap n % m := Int.emod_nonneg _ (by omega)
  have h2 : IntKind.u64.wrap n % m < m := Int.emod_lt_of_pos _ hm
  rw [wrap_small (by omega) (by omega)]
  exact ⟨h1, h2⟩
theorem base_num (n b m : Int) (hb : 0 ≤ b) (hb2 : b ≤ 1000) (hm : 0 < m) (hm2 : m ≤ 100) : ∃ x : Nat, wrap64 (b + wrap64 (Int.tmod (IntKind.u64.wrap n) m)) = x ∧ b ≤ x ∧ (x : Int) < b + m := by
  have h := mod_range n m hm hm2
  refine ⟨(b + wrap64 (Int.tmod (IntKind.u64.wrap n) m)).toNat, ?_, by omega, by omega⟩
  rw [wrap_small (by omega) (by omega)]
  omega
theorem jidBounds (n m q what : Int) (hn : (Lit.int .i64 n).wf = true) (hm : (Lit.int .i64 m).wf = true) (hq : (Lit.int .i64 q).wf = true) (hw : (Lit.int .i64 what).wf = true) : ∃ k, cardexlaw07_JidBounds.f k n m q what = some true := by
  obtain ⟨K0, h0⟩ := awake_ev
  obtain ⟨x, hx, x1, x2⟩ := base_num n 60 8 (by decide) (by decide) (by decide) (by decide)
  obtain ⟨y, hy, y1, y2⟩ := base_num m 96 8 (by decide) (by decide) (by decide) (by decide)
  obtain ⟨z, hz, z1, z2⟩ := base_num q 60 8 (by decide) (by decide) (by decide) (by decide)
  have hj := mod_range what 12 (by decide) (by decide)
  obtain ⟨j, hjj⟩ : ∃ j, wrap64 (Int.tmod (IntKind.u64.wrap what) 12) = j := ⟨_, rfl⟩
  rw [hjj] at hj
  obtain ⟨K1, b1, b2, b3, hb⟩ := bad_ev j hj.1 hj.2
  obtain ⟨K2, hd⟩ := dom_ev (⟨#[65, 46, 66, 46]⟩ : ByteArray) (by decide)
  have hdv : domP (⟨#[65, 46, 66, 46]⟩ : ByteArray) = (ba [97, 46, 98], 0) := by decide +kernel
  rw [hdv] at hd
  have ne : ∀ {i : Nat}, 60 ≤ i → rep i ≠ [] := fun {i} h e => by have := rep_len i; rw [e] at this; simp at this; omega
  have hlp := long_parse (rep_word x) (rep_word y) (rep_word z) (ne (by omega)) (ne (by omega)) (ne (by omega))
  rw [rep_len, rep_len, rep_len] at hlp
  obtain ⟨K3, hp⟩ := parse_ev (ba (rep x ++ [64] ++ rep y ++ [47] ++ rep z)) (by rw [ba_size]; simp [rep_len]; omega)
  rw [ba_list] at hp
  obtain ⟨⟨p1, p2, p3, p4⟩, hpp⟩ : ∃ p, parseL (rep x ++ [64] ++ rep y ++ [47] ++ rep z) = p := ⟨_, rfl⟩
  rw [hpp] at hp hlp
  simp only at hlp
  refine ⟨K0 + K1 + K2 + K3 + 1000, ?_⟩
  have e1 : (⟨#[64]⟩ : ByteArray) = ba [64] := rfl
  have e2 : (⟨#[47]⟩ : ByteArray) = ba [47] := rfl
  have eb : [(⟨#[]⟩ : ByteArray), (⟨#[64, 97]⟩ : ByteArray), (⟨#[97, 64]⟩ : ByteArray), (⟨#[97, 47]⟩ : ByteArray), (⟨#[47, 97]⟩ : ByteArray), (⟨#[97, 64, 64, 98]⟩ : ByteArray), (⟨#[97, 64, 45, 98]⟩ : ByteArray), (⟨#[97, 64, 98, 45]⟩ : ByteArray), (⟨#[97, 64, 98, 46, 46, 99]⟩ : ByteArray), (⟨#[97, 64, 46, 98]⟩ : ByteArray), (⟨#[46]⟩ : ByteArray), (⟨#[97, 64, 98, 47]⟩ : ByteArray)] = bads := rfl
  have ew : ([14, 14, 14, 14, 14, 15, 14, 14, 14, 14, 14, 14] : List Int) = wants := rfl
  have lb : (bads.length : Int) = 12 := rfl
  have lw : (wants.length : Int) = 12 := rfl
  unfold cardexlaw07_JidBounds.f
  rw [hx, hy, hz, hjj, eb, ew]
  rw [rep_ev x _ (by omega) (by omega), rep_ev y _ (by omega) (by omega), rep_ev z _ (by omega) (by omega)]
  simp only [Option.bind_some]
  rw [e1, e2]
  simp only [ba_append, ba_size]
  rw [if_pos (by simp [rep_len]; omega), if_pos (by simp [rep_len]; omega), if_pos (by simp [rep_len]; omega), if_pos (by simp [rep_len]; omega), hp _ (by omega)]
  simp only [Option.bind_some, lb, lw]
  rw [if_pos hj.1, if_pos hj.2, if_pos hj.2, hb _ (by omega), hd _ (by omega), h0 _ (by omega)]
  simp only [Option.bind_some, if_true, ba_toList]
  by_cases c1 : (x : Int) ≤ 64 <;> by_cases c2 : (y : Int) ≤ 100 <;> by_cases c3 : (z : Int) ≤ 64
  · rw [if_pos (by omega)] at hlp
    simp [c1, c2, c3, hlp, hj.1, hj.2]
  all_goals
    rw [if_neg (by omega)] at hlp
    simp [c1, c2, c3, hlp, hj.1, hj.2]
end Go.Proofs.YtmhfjeekhkoikaaDoor.P
