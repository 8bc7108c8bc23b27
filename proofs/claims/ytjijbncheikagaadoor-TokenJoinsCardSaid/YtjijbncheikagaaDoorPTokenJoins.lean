/- TokenJoins, in plain words: two files, one behind the other, are both files' tokens, the second one's so much later. -/
import Derived.Test.YtjijbncheikagaaDoorTokL
namespace Go.Proofs.YtjijbncheikagaaDoor.P
open Go Go.RowKit Go.Lib Go.Proofs.YtjijbncheikagaaDoorX Go.Proofs.YtjijbncheikagaaDoorW.PrintWords Go.Proofs.YtjijbncheikagaaDoor.Q
set_option linter.unusedVariables false
set_option linter.unusedSimpArgs false
theorem same_attrs (x : List S41) (hx : x.length ≤ 1000) : ∀ (d i : Nat), i + d = x.length → ∀ k, d < k → cardexhelp_Same_api_Attr_cardexhelp_Plain_Attr_1.l0 k x x (i : Int) = some true
  | 0, i, hi, k, hk => by
    obtain ⟨k, rfl⟩ : ∃ j, k = j + 1 := ⟨k - 1, by omega⟩
    rw [cardexhelp_Same_api_Attr_cardexhelp_Plain_Attr_1.l0, if_neg (by omega)]
  | d + 1, i, hi, k, hk => by
    obtain ⟨k, rfl⟩ : ∃ j, k = j + 1 := ⟨k - 1, by omega⟩
    rw [cardexhelp_Same_api_Attr_cardexhelp_Plain_Attr_1.l0, if_pos (by omega), if_pos (by omega), if_pos (by omega)]
    unfold api_Attr_1.f
    rw [Option.bind_some, if_pos (by rw [beq_self_eq_true, beq_self_eq_true]; rfl), wrap_small (by omega) (by omega), show (i : Int) + 1 = ((i + 1 : Nat) : Int) by omega]
    exact same_attrs x hx d (i + 1) (by omega) k (by omega)
theorem same_toks (x : List S39) (hx : x.length ≤ 100000) (ha : ∀ t ∈ x, t.f4.length ≤ 100) : ∀ (d i : Nat), i + d = x.length → ∀ k, d + 200 < k → cardexhelp_Same_api_Token_cardexhelp_Token.l0 k x x (i : Int) = some true
  | 0, i, hi, k, hk => by
    obtain ⟨k, rfl⟩ : ∃ j, k = j + 1 := ⟨k - 1, by omega⟩
    rw [cardexhelp_Same_api_Token_cardexhelp_Token.l0, if_neg (by omega)]
  | d + 1, i, hi, k, hk => by
    obtain ⟨k, rfl⟩ : ∃ j, k = j + 1 := ⟨k - 1, by omega⟩
    have ht : rd_T39 x (i : Int) = x[i]'(by omega) := by unfold rd_T39; simp [show i < x.length by omega]
    have hl := ha _ (List.getElem_mem (show i < x.length by omega))
    rw [cardexhelp_Same_api_Token_cardexhelp_Token.l0, if_pos (by omega), if_pos (by omega), if_pos (by omega), ht]
    have hs0 : cardexhelp_Same_api_Attr_cardexhelp_Plain_Attr_1.l0 k (x[i]'(by omega)).f4 (x[i]'(by omega)).f4 0 = some true := same_attrs _ (by omega) (x[i]'(by omega)).f4.length 0 (by omega) k (by omega)
    unfold cardexhelp_Token.f api_Attr_37.f cardexhelp_Same_api_Attr_cardexhelp_Plain_Attr_1.f
    rw [if_pos rfl, if_pos rfl, if_pos rfl, if_pos rfl, if_pos (by rw [beq_self_eq_true]), if_pos rfl, hs0, Option.bind_some, Option.bind_some, Option.bind_some, if_pos rfl, wrap_small (by omega) (by omega), show (i : Int) + 1 = ((i + 1 : Nat) : Int) by omega]
    exact same_toks x hx ha d (i + 1) (by omega) k (by omega)
theorem same_tok (x : List S39) (hx : x.length ≤ 100000) (ha : ∀ t ∈ x, t.f4.length ≤ 100) (k : Nat) (hk : x.length + 201 ≤ k) : cardexhelp_Same_api_Token_cardexhelp_Token.f k x x = some true := by
  unfold cardexhelp_Same_api_Token_cardexhelp_Token.f
  rw [if_pos rfl]
  exact same_toks x hx ha x.length 0 (by omega) k (by omega)
def laterT (s : Nat) (t : S39) : S39 := ⟨t.f0, t.f1 + (s : Int), t.f2, t.f3, t.f4, t.f5⟩
theorem set_later {α : Type} (f : α → α) (x : List α) (i : Nat) (hi : i < x.length) : ((x.take i).map f ++ x.drop i).set i (f x[i]) = (x.take (i + 1)).map f ++ x.drop (i + 1) := by
  have hl : ((x.take i).map f).length = i := by rw [List.length_map, List.length_take]; omega
  rw [List.set_append_right _ _ (by omega), hl, Nat.sub_self, List.drop_eq_getElem_cons hi, List.set_cons_zero, List.take_succ_eq_append_getElem hi, List.map_append, List.append_assoc]
  rfl
theorem later_loop (a : ByteArray) (ha : a.size ≤ 100000) (x z y : List S39) (hy : y.length ≤ 100000) (hp : ∀ t ∈ y, 0 ≤ t.f1 ∧ t.f1 ≤ 100000) (hend : ∃ K, ∀ k, K ≤ k → cardexlaw08_TokenJoins.l0 k a x (y.map (laterT a.size)) z (y.length : Int) = some true) :
    ∀ (d i : Nat), i + d = y.length → ∃ K, ∀ k, K ≤ k → cardexlaw08_TokenJoins.l0 k a x ((y.take i).map (laterT a.size) ++ y.drop i) z (i : Int) = some true
  | 0, i, hi => by
    have : i = y.length := by omega
    subst this
    rw [List.take_length, List.drop_length, List.append_nil]
    exact hend
  | d + 1, i, hi => by
    obtain ⟨K, hK⟩ := later_loop a ha x z y hy hp hend d (i + 1) (by omega)
    refine ⟨K + 1, fun k hk => ?_⟩
    obtain ⟨k, rfl⟩ : ∃ j, k = j + 1 := ⟨k - 1, by omega⟩
    have hl : ((y.take i).map (laterT a.size) ++ y.drop i).length = y.length := by rw [List.length_append, List.length_map, List.length_take, List.length_drop]; omega
    have hr : rd_T39 ((y.take i).map (laterT a.size) ++ y.drop i) (i : Int) = y[i]'(by omega) := by
      unfold rd_T39
      have hl2 : ((y.take i).map (laterT a.size)).length = i := by rw [List.length_map, List.length_take]; omega
      rw [Int.toNat_natCast, List.getD_eq_getElem?_getD, List.getElem?_append_right (by omega), hl2, Nat.sub_self, List.drop_eq_getElem_cons (by omega : i < y.length)]; rfl
    obtain ⟨p0, p1⟩ := hp _ (List.getElem_mem (show i < y.length by omega))
    rw [cardexlaw08_TokenJoins.l0, if_pos (by rw [hl]; omega), if_pos (by omega), hr, Int.toNat_natCast, wrap_small (by omega) (by omega), wrap_small (by omega) (by omega), show (i : Int) + 1 = ((i + 1 : Nat) : Int) by omega]
    have := set_later (laterT a.size) y i (by omega)
    unfold laterT at this ⊢
    rw [this]
    exact hK k (by omega)
theorem toks_ok {s : ByteArray} (h : (toksF s).2.2 = 0) : validT s = true ∧ s.size ≤ 20000 ∧ ∃ x, Row s.size (isL prologC s.data.toList) x ∧ toksF s = (x.map mkT, 0, 0) := by
  unfold toksF at h ⊢
  by_cases h1 : s.size > 20000
  · rw [if_pos h1] at h; exact absurd h (by decide)
  rw [if_neg h1] at h ⊢
  cases hv : validT s with
  | false => rw [hv, if_neg Bool.false_ne_true] at h; exact absurd h (by decide)
  | true =>
    rw [hv, if_pos rfl] at h
    rw [if_pos rfl]
    refine ⟨rfl, by omega, ?_⟩
    cases ht : toksG (s.size + 1) s.size (isL prologC s.data.toList) with
    | error e =>
      rw [ht] at h
      exact absurd h (toks_err _ _ _ _ ht (by have := isL_len prologC s.data.toList; rw [size_list] at this; omega))
    | ok x => exact ⟨x, toks_row _ _ _ _ ht, rfl⟩
theorem ok_toks {s : ByteArray} {x : List (Pc × Int)} (hs : s.size ≤ 20000) (hv : validT s = true) (hr : Row s.size (isL prologC s.data.toList) x) : toksF s = (x.map mkT, 0, 0) := by
  unfold toksF
  rw [if_neg (by omega), if_pos hv, row_exact hr _ (by have := isL_len prologC s.data.toList; rw [size_list] at this; omega)]
  rfl
theorem j1_go (a : ByteArray) (x y z : List S39) (k : Nat) (hx : 1 ≤ x.length) (hy : 1 ≤ y.length) (hz : z.length + 1 = x.length + y.length) (bx : x.length ≤ 100000) (by_ : y.length ≤ 100000) : cardexlaw08_TokenJoins.j1 (k + 1 + 1) a x y z 0 false = cardexlaw08_TokenJoins.l0 k a x y z 0 := by
  have wl : wrap64 (wrap64 ((x.length : Int) + (y.length : Int)) - 1) = (z.length : Int) := by
    rw [wrap_small (x := (x.length : Int) + (y.length : Int)) (by omega) (by omega), wrap_small (by omega) (by omega)]; omega
  have hb : ((z.length : Int) != (z.length : Int)) = false := bne_self_eq_false _
  rw [cardexlaw08_TokenJoins.j1, if_neg Bool.false_ne_true, if_pos rfl, if_neg (by omega), if_neg (by omega), wl, hb, cardexlaw08_TokenJoins.j2, if_neg Bool.false_ne_true]
def qL : Text := [113, 47, 62]
theorem prolog_app (u m : Text) : isL prologC (u ++ 60 :: 113 :: m) = isL prologC u ++ 60 :: 113 :: m := by
  have key : (prologC <+: u ++ 60 :: 113 :: m) ↔ prologC <+: u := by
    constructor
    · intro h
      by_cases hl : prologC.length ≤ u.length
      · exact List.prefix_of_prefix_length_le h (List.prefix_append u _) hl
      · exfalso
        have hul : u.length < 38 := by have : prologC.length = 38 := rfl; omega
        have e1 : prologC[u.length]? = some 60 := by
          obtain ⟨t, ht⟩ := h
          have h3 : (prologC ++ t)[u.length]? = prologC[u.length]? := List.getElem?_append_left (by omega)
          rw [← h3, ht, List.getElem?_append_right (Nat.le_refl _), Nat.sub_self]; rfl
        have k : ∀ i : Fin 38, prologC[i.val]? = some 60 → i.val = 0 := by decide +kernel
        have h0 : u = [] := List.length_eq_zero_iff.1 (k ⟨u.length, hul⟩ e1)
        subst h0
        rw [List.nil_append] at h
        obtain ⟨t, ht⟩ := h
        injection ht with _ ht
        injection ht with ht _
        revert ht; decide
    · intro h; exact h.trans (List.prefix_append u _)
  unfold isL
  by_cases h : prologC <+: u
  · rw [if_pos h, if_pos (key.2 h), List.drop_append_of_le_length h.length_le]
  · rw [if_neg h, if_neg (fun e => h (key.1 e))]
theorem next_q (m : Text) : nextO (60 :: 113 :: 47 :: 62 :: m) = some (⟨1, [113], [], [], true⟩, m) := by
  have hn : nameL (113 :: 47 :: 62 :: m) = ([113], 47 :: 62 :: m) := by
    rw [nameL_yes (by decide)]
    rfl
  have hg : gapL (47 :: 62 :: m) = 47 :: 62 :: m := rfl
  unfold nextO
  rw [if_neg (by rintro ⟨t, ht⟩; injection ht with _ ht; injection ht with ht _; revert ht; decide), if_pos ⟨113 :: 47 :: 62 :: m, rfl⟩]
  unfold openO
  rw [List.drop_succ_cons, List.drop_zero, hn]
  simp only
  rw [if_neg (by simp), openG, hg, if_pos ⟨m, rfl⟩]
  rfl
theorem row_attrs {N : Nat} {l : Text} {x : List (Pc × Int)} (h : Row N l x) : ∀ t ∈ x.map mkT, t.f4.length ≤ 100 ∧ 0 ≤ t.f1 ∧ t.f1 ≤ N := by
  induction h with
  | nil => intro t ht; cases ht
  | @cons l r p x h0 hn hc hr ih =>
    intro t ht
    rw [List.map_cons] at ht
    rcases List.mem_cons.1 ht with rfl | ht
    · refine ⟨?_, ?_, ?_⟩
      · show (mkA p.ats).length ≤ 100
        unfold mkA
        rw [List.length_map]; omega
      · show 0 ≤ ((N - l.length : Nat) : Int)
        omega
      · show ((N - l.length : Nat) : Int) ≤ N
        omega
    · exact ih t ht
set_option maxHeartbeats 4000000 in
theorem tokenJoins (a b : ByteArray) (hsa : a.size ≤ 140737488351232) (hsb : b.size ≤ 140737488351232) : ∃ k, cardexlaw08_TokenJoins.f k a b = some true := by
  have far : ∀ k, 40 ≤ k → cardexlaw08_TokenJoins.j0 (k + 1) a b true = some true := by
    intro k hk
    rw [cardexlaw08_TokenJoins.j0, if_pos rfl, awake8_up k hk]; rfl
  by_cases h1 : (a.size : Int) > 1500
  · refine ⟨41, ?_⟩
    unfold cardexlaw08_TokenJoins.f
    rw [if_pos h1]; exact far 40 (by omega)
  by_cases h2 : (b.size : Int) > 1500
  · refine ⟨41, ?_⟩
    unfold cardexlaw08_TokenJoins.f
    rw [if_neg h1, decide_eq_true h2]; exact far 40 (by omega)
  have hq : (⟨#[60, 113, 47, 62]⟩ : ByteArray) = ba (60 :: qL) := rfl
  have hq4 : (ba (60 :: qL)).size = 4 := rfl
  obtain ⟨K1, hK1⟩ := Tokens_f (a ++ ba (60 :: qL)) (by rw [ByteArray.size_append, hq4]; omega)
  obtain ⟨K2, hK2⟩ := Tokens_f (ba (60 :: qL) ++ b) (by rw [ByteArray.size_append, hq4]; omega)
  obtain ⟨K3, hK3⟩ := Tokens_f ((a ++ ba (60 :: qL)) ++ b) (by rw [ByteArray.size_append, ByteArray.size_append, hq4]; omega)
  have start : ∀ k, K1 + K2 + K3 + 42 ≤ k → cardexlaw08_TokenJoins.f k a b = if (toksF (a ++ ba (60 :: qL))).2.2 = 0 then cardexlaw08_TokenJoins.j1 (k - 1) a (toksF (a ++ ba (60 :: qL))).1 (toksF (ba (60 :: qL) ++ b)).1 (toksF ((a ++ ba (60 :: qL)) ++ b)).1 (toksF ((a ++ ba (60 :: qL)) ++ b)).2.2 ((toksF (ba (60 :: qL) ++ b)).2.2 != 0) else cardexlaw08_TokenJoins.j1 (k - 1) a (toksF (a ++ ba (60 :: qL))).1 (toksF (ba (60 :: qL) ++ b)).1 (toksF ((a ++ ba (60 :: qL)) ++ b)).1 (toksF ((a ++ ba (60 :: qL)) ++ b)).2.2 true := by
    intro k hk
    obtain ⟨k, rfl⟩ : ∃ j, k = j + 1 := ⟨k - 1, by omega⟩
    unfold cardexlaw08_TokenJoins.f
    rw [if_neg h1, decide_eq_false h2, cardexlaw08_TokenJoins.j0, if_neg Bool.false_ne_true, if_pos (by omega), hq, hK1 k (by omega), Option.bind_some, if_pos (by omega), hK2 k (by omega), Option.bind_some, if_pos (by rw [ByteArray.size_append, hq4]; omega), hK3 k (by omega), Option.bind_some, Nat.add_sub_cancel]
  have skip : ∀ k x y z e, 40 ≤ k → cardexlaw08_TokenJoins.j1 (k + 1) a x y z e true = some true := by
    intro k x y z e hk
    rw [cardexlaw08_TokenJoins.j1, if_pos rfl, awake8_up k hk]; rfl
  by_cases he : (toksF (a ++ ba (60 :: qL))).2.2 = 0
  · by_cases hf : (toksF (ba (60 :: qL) ++ b)).2.2 = 0
    · obtain ⟨v1, s1, x, r1, e1⟩ := toks_ok he
      obtain ⟨v2, s2, y, r2, e2⟩ := toks_ok hf
      have d1 : (a ++ ba (60 :: qL)).data.toList = a.data.toList ++ 60 :: qL := by rw [data_app, ba_list]
      have d2 : (ba (60 :: qL) ++ b).data.toList = 60 :: (qL ++ b.data.toList) := by rw [data_app, ba_list]; rfl
      have d3 : ((a ++ ba (60 :: qL)) ++ b).data.toList = a.data.toList ++ 60 :: (qL ++ b.data.toList) := by rw [data_app, d1, List.append_assoc]; rfl
      have z1 : (a ++ ba (60 :: qL)).size = a.size + 4 := by rw [ByteArray.size_append, hq4]
      have z2 : (ba (60 :: qL) ++ b).size = 4 + b.size := by rw [ByteArray.size_append, hq4]
      have z3 : ((a ++ ba (60 :: qL)) ++ b).size = a.size + 4 + b.size := by rw [ByteArray.size_append, z1]
      have ql : qL.length = 3 := rfl
      rw [d1, show qL = 113 :: [47, 62] from rfl, prolog_app, show (113 :: [47, 62] : Text) = qL from rfl, z1] at r1
      have np : isL prologC (60 :: (qL ++ b.data.toList)) = 60 :: (qL ++ b.data.toList) := by
        have := prolog_app [] ([47, 62] ++ b.data.toList)
        rw [List.nil_append] at this
        exact this
      rw [d2, np, z2] at r2
      have hu := isL_len prologC a.data.toList
      rw [size_list] at hu
      obtain ⟨xs, w, hx, hw, hrest⟩ := row_app (isL prologC a.data.toList).length (isL prologC a.data.toList) x (Nat.le_refl _) (by rw [List.length_append, List.length_cons, ql]; omega) r1
      -- the tag between them, alone
      have hw1 : w = [(⟨1, [113], [], [], true⟩, (a.size : Int))] := by
        have hq1 := next_q []
        generalize hg : (60 :: qL : Text) = g at hw
        cases hw with
        | nil => cases hg
        | @cons _ r p w' h0 hn hc hr =>
          subst hg
          rw [show (60 :: qL : Text) = 60 :: 113 :: 47 :: 62 :: [] from rfl, hq1] at hn
          cases hn
          cases hr with
          | nil =>
            have : a.size + 4 - (60 :: qL : Text).length = a.size := by rw [List.length_cons, ql]; omega
            rw [this]
          | cons h0 _ _ _ => exact absurd rfl h0
      -- and with what is behind it
      have r3 := row_shift a.size r2 (by rw [List.length_cons, List.length_append, size_list, ql]; omega)
      obtain ⟨y', hy'⟩ : ∃ y', y = (⟨1, [113], [], [], true⟩, (0 : Int)) :: y' := by
        have hq1 := next_q b.data.toList
        generalize hg : (60 :: (qL ++ b.data.toList) : Text) = g at r2
        cases r2 with
        | nil => cases hg
        | @cons _ r p w' h0 hn hc hr =>
          subst hg
          rw [show (60 :: (qL ++ b.data.toList) : Text) = 60 :: 113 :: 47 :: 62 :: b.data.toList from rfl, hq1] at hn
          cases hn
          refine ⟨w', ?_⟩
          have : 4 + b.size - (60 :: (qL ++ b.data.toList) : Text).length = 0 := by rw [List.length_cons, List.length_append, size_list, ql]; omega
          rw [this]; rfl
      have r4 := hrest (qL ++ b.data.toList) (4 + b.size + a.size) _ r3 (by rw [List.length_append, List.length_cons, List.length_append, size_list, ql]; omega) (by rw [List.length_cons, List.length_append, size_list, List.length_cons, ql]; omega)
      have hv3 : validT ((a ++ ba (60 :: qL)) ++ b) = true := by
        have vb : validT b = true := by
          have := (valid_cut [60, 113, 47] b.data.toList 62 (by decide) (by
            have h9 := v2
            rw [← ba_of (ba (60 :: qL) ++ b), d2] at h9
            exact h9)).2.1
          rw [ba_of] at this
          exact this
        exact validT_app _ _ v1 vb
      have e3 : toksF ((a ++ ba (60 :: qL)) ++ b) = ((xs ++ y.map fun q => (q.1, q.2 + (a.size : Int))).map mkT, 0, 0) := by
        refine ok_toks (by omega) hv3 ?_
        rw [d3, show (60 :: (qL ++ b.data.toList) : Text) = 60 :: 113 :: ([47, 62] ++ b.data.toList) from rfl, prolog_app, show (60 :: 113 :: ([47, 62] ++ b.data.toList) : Text) = 60 :: (qL ++ b.data.toList) from rfl, z3, show a.size + 4 + b.size = 4 + b.size + a.size by omega]
        exact r4
      have lx := row_len r1
      have ly := row_len r2
      rw [List.length_append, List.length_cons, ql] at lx
      rw [List.length_cons, List.length_append, size_list, ql] at ly
      -- the lists, as they stand
      have hmap : (y.map fun q => (q.1, q.2 + (a.size : Int))).map mkT = (y.map mkT).map (laterT a.size) := by
        rw [List.map_map, List.map_map]; rfl
      have hX : x.map mkT = xs.map mkT ++ [mkT (⟨1, [113], [], [], true⟩, (a.size : Int))] := by rw [hx, hw1, List.map_append]; rfl
      have hZ : (xs ++ y.map fun q => (q.1, q.2 + (a.size : Int))).map mkT = xs.map mkT ++ (y.map mkT).map (laterT a.size) := by rw [List.map_append, hmap]
      have hY : (y.map mkT).map (laterT a.size) = mkT (⟨1, [113], [], [], true⟩, (a.size : Int)) :: (y'.map mkT).map (laterT a.size) := by
        rw [hy', List.map_cons, List.map_cons]
        congr 1
        unfold laterT mkT
        simp
      have lX : (x.map mkT).length = xs.length + 1 := by rw [hX, List.length_append, List.length_map]; rfl
      have lx2 : x.length = xs.length + 1 := by rw [← lX, List.length_map]
      have lY : (y.map mkT).length = y.length := List.length_map _
      have ly2 : 1 ≤ y.length := by rw [hy', List.length_cons]; omega
      have ax := row_attrs r1
      have ay := row_attrs r2
      have lZ : (xs.map mkT ++ (y.map mkT).map (laterT a.size)).length = xs.length + y.length := by rw [List.length_append, List.length_map, List.length_map, List.length_map]
      have tk : (xs.map mkT ++ (y.map mkT).map (laterT a.size)).take (xs.length + 1) = x.map mkT := by
        rw [hY, hX, List.take_append, List.length_map, show xs.length + 1 - xs.length = 1 by omega, List.take_of_length_le (by rw [List.length_map]; omega)]; rfl
      have dk : (xs.map mkT ++ (y.map mkT).map (laterT a.size)).drop xs.length = (y.map mkT).map (laterT a.size) := by
        rw [List.drop_append_of_le_length (by rw [List.length_map]; omega), List.drop_of_length_le (by rw [List.length_map]; omega), List.nil_append]
      have hend : ∃ K, ∀ k, K ≤ k → cardexlaw08_TokenJoins.l0 k a (x.map mkT) ((y.map mkT).map (laterT a.size)) (xs.map mkT ++ (y.map mkT).map (laterT a.size)) ((y.map mkT).length : Int) = some true := by
        refine ⟨x.length + y.length + 300, fun k hk => ?_⟩
        obtain ⟨k, rfl⟩ : ∃ j, k = j + 1 := ⟨k - 1, by omega⟩
        rw [cardexlaw08_TokenJoins.l0, if_neg (by rw [List.length_map (laterT a.size)]; omega), awake8_up k (by omega), Option.bind_some, if_pos rfl, lX, lZ, if_pos (by omega), if_pos (by omega), Int.toNat_natCast, tk, same_tok _ (by rw [lX]; omega) (fun t ht => (ax t ht).1) k (by rw [lX]; omega), Option.bind_some, if_pos rfl]
        have w1 : wrap64 (((xs.length + 1 : Nat) : Int) - 1) = (xs.length : Int) := by rw [wrap_small (by omega) (by omega)]; omega
        rw [w1, if_pos (by omega), if_pos (by omega), Int.toNat_natCast, dk, same_tok _ (by rw [List.length_map, lY]; omega) (fun t ht => by
          obtain ⟨t', ht', rfl⟩ := List.mem_map.1 ht
          exact (ay t' ht').1) k (by rw [List.length_map, lY]; omega), Option.bind_some, if_pos rfl]
      obtain ⟨K4, hK4⟩ := later_loop a (by omega) (x.map mkT) (xs.map mkT ++ (y.map mkT).map (laterT a.size)) (y.map mkT) (by rw [lY]; omega) (fun t ht => ⟨(ay t ht).2.1, by have := (ay t ht).2.2; omega⟩) hend (y.map mkT).length 0 (by omega)
      refine ⟨K1 + K2 + K3 + K4 + 50, ?_⟩
      have hk9 : K4 ≤ K1 + K2 + K3 + K4 + 47 := by omega
      rw [start _ (by omega), if_pos he, e1, e2, e3, hZ]
      rw [show K1 + K2 + K3 + K4 + 50 - 1 = (K1 + K2 + K3 + K4 + 47) + 1 + 1 by omega]
      generalize K1 + K2 + K3 + K4 + 47 = K9 at hk9 ⊢
      simp only
      rw [show ((0 : Int) != 0) = false by decide]
      rw [j1_go a _ _ _ K9 (by rw [lX]; exact Nat.succ_le_succ (Nat.zero_le _)) (by rw [lY]; exact ly2) (by rw [lZ, lX, lY]; exact Nat.add_right_comm _ _ _) (by rw [lX]; omega) (by rw [lY]; omega)]
      have := hK4 K9 hk9
      rw [List.take_zero, List.map_nil, List.nil_append, List.drop_zero] at this
      exact this
    · refine ⟨K1 + K2 + K3 + 42, ?_⟩
      rw [start _ (Nat.le_refl _), if_pos he, show ((toksF (ba (60 :: qL) ++ b)).2.2 != 0) = true by rw [bne_iff_ne]; exact hf, show K1 + K2 + K3 + 42 - 1 = (K1 + K2 + K3 + 40) + 1 by omega]
      exact skip _ _ _ _ _ (by omega)
  · refine ⟨K1 + K2 + K3 + 42, ?_⟩
    rw [start _ (Nat.le_refl _), if_neg he, show K1 + K2 + K3 + 42 - 1 = (K1 + K2 + K3 + 40) + 1 by omega]
    exact skip _ _ _ _ _ (by omega)
end Go.Proofs.YtjijbncheikagaaDoor.P
