/- JidParts, in plain words: the resource is all behind the first slash, with whatever signs in it; the local part is what is ahead of the first sign ahead of that. -/
import Derived.Test.YtmhfjeekhkoikaaDoorJid
namespace Go.Proofs.YtmhfjeekhkoikaaDoor.P
open Go.RowKit Go.Lib Go.Proofs.YtmhfjeekhkoikaaDoorX Go.Proofs.YtmhfjeekhkoikaaDoorW.PrintWords Go.Proofs.YtmhfjeekhkoikaaDoor.Q

/-- Signs that stay as they are wherever they stand. -/
def plainC (c : Int) : Bool := (decide (97 ≤ c) && decide (c ≤ 122)) || (decide (48 ≤ c) && decide (c ≤ 57))
theorem plain_all {c : Int} (h : plainC c = true) : scal c ∧ mayB c = true ∧ smallL c = [c] ∧ keptL c = [c] ∧ leftB c = false ∧ bannedB c = false := by
  have hc : 48 ≤ c ∧ c ≤ 122 ∧ ¬ (58 ≤ c ∧ c ≤ 96) := by
    unfold plainC at h
    simp only [Bool.or_eq_true, Bool.and_eq_true, decide_eq_true_eq] at h
    omega
  have hg : goneB c = false := by
    rw [gone_tab]
    simp only [inTab, Bool.or_eq_false_iff, Bool.and_eq_false_iff, decide_eq_false_iff_not, Bool.or_false]
    omega
  refine ⟨⟨by omega, by omega, by omega⟩, ?_, ?_, ?_, ?_, ?_⟩
  · unfold mayB
    simp only [Bool.or_eq_true, Bool.and_eq_true, beq_iff_eq, decide_eq_true_eq]
    omega
  · unfold smallL keptL
    rw [if_neg (by omega), if_neg (by omega), hg]; rfl
  · unfold keptL
    rw [hg]; rfl
  · rw [left_tab]
    simp only [inTab, Bool.or_eq_false_iff, Bool.and_eq_false_iff, decide_eq_false_iff_not, Bool.or_false]
    omega
  · rw [banned_tab]
    simp only [inTab, Bool.or_eq_false_iff, Bool.and_eq_false_iff, decide_eq_false_iff_not, Bool.or_false]
    omega
theorem plain_node {c : Int} (h : plainC c = true) : nodeOk c = true := by
  have hb := (plain_all h).2.2.2.2.2
  unfold nodeOk nodeBad
  rw [hb]
  unfold plainC at h
  simp only [Bool.or_eq_true, Bool.and_eq_true, decide_eq_true_eq] at h
  simp only [List.contains_cons, List.contains_nil, Bool.or_false, Bool.not_false, Bool.true_and, Bool.not_eq_true', Bool.or_eq_false_iff, beq_eq_false_iff_ne]
  omega
theorem plain_host {c : Int} (h : plainC c = true) : hostOk c = true := by
  unfold hostOk
  rw [letter_tab]
  unfold plainC at h
  simp only [Bool.or_eq_true, Bool.and_eq_true, decide_eq_true_eq] at h
  simp only [inTab, Bool.or_eq_true, Bool.and_eq_true, decide_eq_true_eq, beq_iff_eq, Bool.or_false]
  omega
theorem straight_no {L : List Int} (h : ∀ c ∈ L, leftB c = false) : straightB L = true := by
  unfold straightB
  have : L.any leftB = false := List.any_eq_false.2 fun c hc => by rw [h c hc]; decide
  rw [this]; rfl
/-- A word: of plain signs alone. -/
def Word (l : List UInt8) : Prop := ∀ b ∈ l, plainC (b.toNat : Int) = true
def nums (l : List UInt8) : List Int := l.map fun b => (b.toNat : Int)
theorem wrs_nums : ∀ l : List UInt8, (∀ b ∈ l, b.toNat < 128) → wrs (nums l) = l
  | [], _ => rfl
  | b :: l, h => by
    have hb := h b (.head _)
    have ih := wrs_nums l (fun x hx => h x (.tail _ hx))
    show wrs ((b.toNat : Int) :: nums l) = _
    rw [wrs_cons, ih, enc_ascii (by omega) (by omega)]
    simp
theorem word_lt {l : List UInt8} (h : Word l) : ∀ b ∈ l, b.toNat < 128 := by
  intro b hb
  have := h b hb
  unfold plainC at this
  simp only [Bool.or_eq_true, Bool.and_eq_true, decide_eq_true_eq] at this
  omega
theorem word_node {l : List UInt8} (h : Word l) : Fix smallL nodeOk (nums l) := by
  refine ⟨?_, straight_no ?_⟩
  · intro c hc
    obtain ⟨b, hb, rfl⟩ := List.mem_map.1 hc
    have := plain_all (h b hb)
    exact ⟨this.1, this.2.1, this.2.2.1, plain_node (h b hb)⟩
  · intro c hc
    obtain ⟨b, hb, rfl⟩ := List.mem_map.1 hc
    exact (plain_all (h b hb)).2.2.2.2.1
theorem word_host {l : List UInt8} (h : Word l) : Fix smallL hostOk (nums l) := by
  refine ⟨?_, straight_no ?_⟩
  · intro c hc
    obtain ⟨b, hb, rfl⟩ := List.mem_map.1 hc
    have := plain_all (h b hb)
    exact ⟨this.1, this.2.1, this.2.2.1, plain_host (h b hb)⟩
  · intro c hc
    obtain ⟨b, hb, rfl⟩ := List.mem_map.1 hc
    exact (plain_all (h b hb)).2.2.2.2.1
theorem pieces_none (c : UInt8) : ∀ l : List UInt8, c ∉ l → pieces c l = [l]
  | [], _ => rfl
  | b :: l, h => by
    have h1 : b ≠ c := fun e => h (by rw [e]; exact .head _)
    rw [pieces, if_neg h1, pieces_none c l (fun e => h (.tail _ e))]
theorem word_right {l : List UInt8} (h : Word l) (hn : l ≠ []) : rightP l = true := by
  have h46 : (46 : UInt8) ∉ l := fun e => by have := h _ e; revert this; decide
  have h45 : (45 : UInt8) ∉ l := fun e => by have := h _ e; revert this; decide
  rw [right_pieces, pieces_none 46 l h46]
  simp only [List.all_cons, List.all_nil, Bool.and_true]
  unfold pOk
  have e1 : (l == []) = false := beq_eq_false_iff_ne.2 hn
  have e2 : (l.head? == some 45) = false := by
    rw [beq_eq_false_iff_ne]
    intro e
    exact h45 (List.mem_of_mem_head? e)
  have e3 : (l.getLast? == some 45) = false := by
    rw [beq_eq_false_iff_ne]
    intro e
    exact h45 (List.mem_of_getLast? e)
  rw [e1, e2, e3]; rfl
theorem word_dom {l : List UInt8} (h : Word l) (hn : l ≠ []) (hl : l.length ≤ 100) : DomOk (ba l) (nums l) := by
  have e := wrs_nums l (word_lt h)
  exact ⟨by rw [e], word_host h, by rw [e]; exact hl, by rw [e]; exact word_right h hn⟩

/-! ### the words that the law makes -/
def six : List UInt8 := [97, 98, 99, 55, 56, 57]
theorem bt_mod (s : ByteArray) (i : Int) : 0 ≤ Int.tmod (wrap64 (bt s i)) 6 ∧ Int.tmod (wrap64 (bt s i)) 6 < 6 := by
  have h := bt_range s i
  rw [wrap_small (by omega) (by omega)]
  rw [Int.tmod_eq_emod_of_nonneg h.1]
  omega
theorem bt_six (j : Int) (h0 : 0 ≤ j) (h1 : j < 6) : ∃ b : UInt8, strOfNums [bt (⟨#[97, 98, 99, 55, 56, 57]⟩ : ByteArray) j] = ba [b] ∧ plainC (b.toNat : Int) = true := by
  have : j = 0 ∨ j = 1 ∨ j = 2 ∨ j = 3 ∨ j = 4 ∨ j = 5 := by omega
  rcases this with rfl | rfl | rfl | rfl | rfl | rfl
  · exact ⟨97, by decide +kernel, by decide⟩
  · exact ⟨98, by decide +kernel, by decide⟩
  · exact ⟨99, by decide +kernel, by decide⟩
  · exact ⟨55, by decide +kernel, by decide⟩
  · exact ⟨56, by decide +kernel, by decide⟩
  · exact ⟨57, by decide +kernel, by decide⟩
theorem word_loop (s : ByteArray) (hs : s.size ≤ 140737488351232) : ∀ (d i k : Nat) (acc : List UInt8), i + d = 20 → d < k → Word acc → acc.length = i + 1 →
    ∃ r : List UInt8, (∀ k', k ≤ k' → cardexlaw07_JidParts_1.l0 k' s (ba acc) (i : Int) = some (ba r)) ∧ Word r ∧ r ≠ [] ∧ r.length ≤ 21
  | 0, i, k, acc, hi, hk, hw, hl => by
    refine ⟨acc, fun k' hk' => ?_, hw, fun e => by rw [e] at hl; simp at hl, by omega⟩
    obtain ⟨k', rfl⟩ : ∃ j, k' = j + 1 := ⟨k' - 1, by omega⟩
    rw [cardexlaw07_JidParts_1.l0, if_neg (show ¬ ((i : Int) < 20) from by omega)]
    split <;> rfl
  | d + 1, i, k, acc, hi, hk, hw, hl => by
    by_cases hlt : (i : Int) < (s.size : Int)
    · have hm := bt_mod s i
      obtain ⟨b, hb, hp⟩ := bt_six _ hm.1 hm.2
      have hw' : Word (acc ++ [b]) := by
        intro x hx
        rcases List.mem_append.1 hx with hx | hx
        · exact hw x hx
        · rw [List.mem_singleton.1 hx]; exact hp
      obtain ⟨r, hr, h1, h2, h3⟩ := word_loop s hs d (i + 1) (k - 1) (acc ++ [b]) (by omega) (by omega) hw' (by simp [hl])
      refine ⟨r, fun k' hk' => ?_, h1, h2, h3⟩
      obtain ⟨k', rfl⟩ : ∃ j, k' = j + 1 := ⟨k' - 1, by omega⟩
      rw [cardexlaw07_JidParts_1.l0, if_pos hlt, if_pos (by omega), if_pos (by omega), if_pos hm.1, if_pos hm.2]
      simp only [Option.bind_some]
      rw [hb, if_pos (by rw [ba_size, ba_size, hl]; simp; omega), ba_append, wrap_small (x := (i : Int) + 1) (by omega) (by omega)]
      have := hr k' (by omega)
      rw [show ((i + 1 : Nat) : Int) = (i : Int) + 1 by omega] at this
      exact this
    · refine ⟨acc, fun k' hk' => ?_, hw, fun e => by rw [e] at hl; simp at hl, by omega⟩
      obtain ⟨k', rfl⟩ : ∃ j, k' = j + 1 := ⟨k' - 1, by omega⟩
      rw [cardexlaw07_JidParts_1.l0, if_neg hlt]
theorem word_ev (s : ByteArray) (hs : s.size ≤ 140737488351232) : ∃ (K : Nat) (r : List UInt8), (∀ k, K ≤ k → cardexlaw07_JidParts_1.f k s = some (ba r)) ∧ Word r ∧ r ≠ [] ∧ r.length ≤ 21 := by
  obtain ⟨r, hr, h1, h2, h3⟩ := word_loop s hs 20 0 21 [120] (by omega) (by omega) (by intro x hx; rw [List.mem_singleton.1 hx]; decide) rfl
  exact ⟨21, r, hr, h1, h2, h3⟩

/-! ### the law -/
def extra : List (List UInt8) := [[], [47], [64], [47, 64, 32, 47]]
theorem res_word {r x : List UInt8} (hr : Word r) (hx : x ∈ extra) : ∃ L, ba (r ++ x) = ba (wrs L) ∧ Fix keptL resOk L := by
  have hlt : ∀ b ∈ r ++ x, b.toNat < 128 := by
    intro b hb
    rcases List.mem_append.1 hb with hb | hb
    · exact word_lt hr b hb
    · have : ∀ y ∈ extra, ∀ b ∈ y, b.toNat < 128 := by decide
      exact this x hx b hb
  have hall : ∀ b ∈ r ++ x, scal (b.toNat : Int) ∧ mayB (b.toNat : Int) = true ∧ keptL (b.toNat : Int) = [(b.toNat : Int)] ∧ resOk (b.toNat : Int) = true ∧ leftB (b.toNat : Int) = false := by
    intro b hb
    rcases List.mem_append.1 hb with hb | hb
    · have := plain_all (hr b hb)
      refine ⟨this.1, this.2.1, this.2.2.2.1, ?_, this.2.2.2.2.1⟩
      unfold resOk
      rw [this.2.2.2.2.2]; rfl
    · have h3 : b = 47 ∨ b = 64 ∨ b = 32 := by
        have : ∀ y ∈ extra, ∀ b ∈ y, b = 47 ∨ b = 64 ∨ b = 32 := by decide
        exact this x hx b hb
      rcases h3 with rfl | rfl | rfl <;> exact ⟨⟨by decide, by decide, by decide⟩, by decide, by decide, by decide, by decide⟩
  refine ⟨nums (r ++ x), by rw [wrs_nums _ hlt], ?_, straight_no ?_⟩
  · intro c hc
    obtain ⟨b, hb, rfl⟩ := List.mem_map.1 hc
    have := hall b hb
    exact ⟨this.1, this.2.1, this.2.2.1, this.2.2.2.1⟩
  · intro c hc
    obtain ⟨b, hb, rfl⟩ := List.mem_map.1 hc
    exact (hall b hb).2.2.2.2
theorem extra_at (y : List ByteArray) (hy : y = [(⟨#[]⟩ : ByteArray), (⟨#[47]⟩ : ByteArray), (⟨#[64]⟩ : ByteArray), (⟨#[47, 64, 32, 47]⟩ : ByteArray)]) (j : Int) (h0 : 0 ≤ j) (h1 : j < 4) : ∃ x ∈ extra, rdOf ByteArray.empty y j = ba x ∧ x.length ≤ 4 := by
  subst hy
  have : j = 0 ∨ j = 1 ∨ j = 2 ∨ j = 3 := by omega
  rcases this with rfl | rfl | rfl | rfl
  · exact ⟨[], by decide, rfl, by decide⟩
  · exact ⟨[47], by decide, rfl, by decide⟩
  · exact ⟨[64], by decide, rfl, by decide⟩
  · exact ⟨[47, 64, 32, 47], by decide, rfl, by decide⟩
theorem dotted {d : List UInt8} (hd : Word d) (hn : d ≠ []) (hl : d.length ≤ 100) : parseL (d ++ [46]) = (ba [], ba d, ba [], 0) := by
  have h47 : (47 : UInt8) ∉ d ++ [46] := by
    intro e
    rcases List.mem_append.1 e with e | e
    · have := hd _ e; revert this; decide
    · revert e; decide
  have h64 : (64 : UInt8) ∉ d ++ [46] := by
    intro e
    rcases List.mem_append.1 e with e | e
    · have := hd _ e; revert this; decide
    · revert e; decide
  have hp : partsP (d ++ [46]) = ([], false, d ++ [46], [], false) := by
    unfold partsP
    rw [cut_none 47 _ h47]
    simp only
    rw [cut_none 64 _ h64]
    rfl
  have hfix : Fix smallL hostOk (nums d ++ [46]) := by
    have hw := word_host hd
    refine ⟨?_, straight_no ?_⟩
    · intro c hc
      rcases List.mem_append.1 hc with hc | hc
      · exact hw.each c hc
      · rw [List.mem_singleton.1 hc]
        exact ⟨⟨by decide, by decide, by decide⟩, by decide, by decide, by decide⟩
    · intro c hc
      rcases List.mem_append.1 hc with hc | hc
      · obtain ⟨b, hb, rfl⟩ := List.mem_map.1 hc
        exact (plain_all (hd b hb)).2.2.2.2.1
      · rw [List.mem_singleton.1 hc]; decide
  have hof := of_fix hfix
  have he : wrs (nums d ++ [46]) = d ++ [46] := by
    rw [wrs_append, wrs_nums d (word_lt hd)]; rfl
  rw [he] at hof
  have ht : trimDot (d ++ [46]) = d := by
    unfold trimDot
    rw [if_pos (by simp)]
    simp
  have hdom : domP (ba (d ++ [46])) = (ba d, 0) := by
    unfold domP
    rw [hof]
    simp only [if_true]
    rw [ba_list, ht, if_neg (by omega), if_pos (word_right hd hn)]
  have hnode : nodeP [] false = (ba [], 0) := by
    unfold nodeP
    rw [of_nil]
    exact keptR_fix (fun e => by cases e)
  have hres : resP [] false = (ba [], 0) := by
    unfold resP
    rw [of_nil]
    exact keptR_fix (fun e => by cases e)
  unfold parseL
  rw [hp]
  simp only
  rw [hdom, hnode, hres]
  rfl
theorem nil_fix (T : Int → List Int) (g : Int → Bool) : ∃ L, ba [] = ba (wrs L) ∧ Fix T g L := ⟨[], rfl, (fun c hc => by cases hc), rfl⟩
theorem jidParts (a b c : ByteArray) (n : Int) (ha : a.size ≤ 140737488351232) (hb : b.size ≤ 140737488351232) (hc : c.size ≤ 140737488351232) (hn : (Lit.int .i64 n).wf = true) : ∃ k, cardexlaw07_JidParts.f k a b c n = some true := by
  obtain ⟨K0, h0⟩ := awake_ev
  obtain ⟨K1, l, h1, wl, nl, ll⟩ := word_ev a ha
  obtain ⟨K2, d, h2, wd, nd, ld⟩ := word_ev b hb
  obtain ⟨K3, r, h3, wr, nr, lr⟩ := word_ev c hc
  have hj : 0 ≤ wrap64 (Int.tmod (IntKind.u64.wrap n) 4) ∧ wrap64 (Int.tmod (IntKind.u64.wrap n) 4) < 4 := by
    have hu : 0 ≤ IntKind.u64.wrap n := by
      have e : IntKind.u64.wrap n = n % 18446744073709551616 := by simp [IntKind.wrap, IntKind.signed, IntKind.bits]
      rw [e]
      exact Int.emod_nonneg _ (by decide)
    rw [Int.tmod_eq_emod_of_nonneg hu]
    have h1 : 0 ≤ IntKind.u64.wrap n % 4 := Int.emod_nonneg _ (by decide)
    have h2 : IntKind.u64.wrap n % 4 < 4 := Int.emod_lt_of_pos _ (by decide)
    rw [wrap_small (by omega) (by omega)]
    exact ⟨h1, h2⟩
  obtain ⟨j, hjj⟩ : ∃ j, wrap64 (Int.tmod (IntKind.u64.wrap n) 4) = j := ⟨_, rfl⟩
  rw [hjj] at hj
  obtain ⟨x, hx, hxx, lx⟩ := extra_at _ rfl j hj.1 hj.2
  obtain ⟨L, hL⟩ := res_word wr hx
  have nrx : r ++ x ≠ [] := fun e => nr (List.append_eq_nil_iff.1 e).1
  have okA : JidOk (ba l) (ba d) (ba (r ++ x)) := ⟨⟨nums l, by rw [wrs_nums l (word_lt wl)], word_node wl⟩, by rw [ba_size]; omega, ⟨nums d, word_dom wd nd (by omega)⟩, ⟨L, hL⟩, by rw [ba_size, List.length_append]; omega⟩
  have okB : JidOk (ba []) (ba d) (ba (r ++ x)) := ⟨nil_fix _ _, by rw [ba_size]; simp, ⟨nums d, word_dom wd nd (by omega)⟩, ⟨L, hL⟩, by rw [ba_size, List.length_append]; omega⟩
  have okC : JidOk (ba l) (ba d) (ba []) := ⟨⟨nums l, by rw [wrs_nums l (word_lt wl)], word_node wl⟩, by rw [ba_size]; omega, ⟨nums d, word_dom wd nd (by omega)⟩, nil_fix _ _, by rw [ba_size]; simp⟩
  have pA := parse_fix okA
  have pB := parse_fix okB
  have pC := parse_fix okC
  simp only [ba_list] at pA pB pC
  have tA : textL l d (r ++ x) = l ++ [64] ++ d ++ [47] ++ (r ++ x) := by unfold textL; rw [if_neg nl, if_neg nrx]; simp
  have tB : textL [] d (r ++ x) = d ++ [47] ++ (r ++ x) := by unfold textL; rw [if_pos rfl, if_neg nrx]; simp
  have tC : textL l d [] = l ++ [64] ++ d := by unfold textL; rw [if_neg nl, if_pos rfl]; simp
  rw [tA] at pA
  rw [tB] at pB
  rw [tC] at pC
  obtain ⟨KA, eA⟩ := parse_ev (ba (l ++ [64] ++ d ++ [47] ++ (r ++ x))) (by rw [ba_size]; simp; omega)
  obtain ⟨KB, eB⟩ := parse_ev (ba (d ++ [47] ++ (r ++ x))) (by rw [ba_size]; simp; omega)
  obtain ⟨KD, eD⟩ := parse_ev (ba (d ++ [46])) (by rw [ba_size]; simp; omega)
  obtain ⟨KE, eE⟩ := bare_ev (ba (l ++ [64] ++ d ++ [47] ++ (r ++ x))) (by rw [ba_size]; simp; omega)
  obtain ⟨KF, eF⟩ := bare_ev (ba (l ++ [64] ++ d)) (by rw [ba_size]; simp; omega)
  rw [ba_list, pA] at eA
  rw [ba_list, pB] at eB
  rw [ba_list, dotted wd nd (by omega)] at eD
  have bE : bareL (l ++ [64] ++ d ++ [47] ++ (r ++ x)) = (ba [], 14) := by
    unfold bareL
    rw [pA]
    simp only [if_true, ba_list]
    rw [if_neg nrx]
  have bF : bareL (l ++ [64] ++ d) = (ba (l ++ [64] ++ d), 0) := by
    unfold bareL
    rw [pC]
    simp only [if_true, ba_list]
    rw [tC]
  rw [ba_list, bE] at eE
  rw [ba_list, bF] at eF
  refine ⟨K0 + K1 + K2 + K3 + KA + KB + KD + KE + KF, ?_⟩
  have e1 : (⟨#[64]⟩ : ByteArray) = ba [64] := rfl
  have e2 : (⟨#[47]⟩ : ByteArray) = ba [47] := rfl
  have e3 : (⟨#[46]⟩ : ByteArray) = ba [46] := rfl
  unfold cardexlaw07_JidParts.f
  rw [h1 _ (by omega), h2 _ (by omega), h3 _ (by omega)]
  simp only [Option.bind_some]
  rw [hjj, if_pos hj.1, if_pos (by simpa using hj.2), hxx, e1, e2, e3]
  simp only [ba_append, ba_size]
  rw [if_pos (by omega), if_pos (by (try simp); omega), if_pos (by (try simp); omega), if_pos (by (try simp); omega), if_pos (by (try simp); omega), eA _ (by omega)]
  simp only [Option.bind_some]
  rw [if_pos (by simp; omega), if_pos (by simp; omega), eB _ (by omega)]
  simp only [Option.bind_some]
  rw [eD _ (by omega)]
  simp only [Option.bind_some]
  rw [eE _ (by omega)]
  simp only [Option.bind_some]
  rw [eF _ (by omega), h0 _ (by omega)]
  simp only [Option.bind_some, if_true, ba_toList]
end Go.Proofs.YtmhfjeekhkoikaaDoor.P
