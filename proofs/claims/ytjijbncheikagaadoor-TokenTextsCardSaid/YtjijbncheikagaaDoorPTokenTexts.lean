/- TokenTexts, in plain words: a text that is escaped is told as it was, in a value, too; with blanks where they may stand. -/
import Derived.Test.YtjijbncheikagaaDoorEscT
import Derived.Test.YtjijbncheikagaaDoorPTokenPlaces
namespace Go.Proofs.YtjijbncheikagaaDoor.P
open Go Go.RowKit Go.Lib Go.Proofs.YtjijbncheikagaaDoorX Go.Proofs.YtjijbncheikagaaDoorW.PrintWords Go.Proofs.YtjijbncheikagaaDoor.Q
set_option linter.unusedVariables false
set_option linter.unusedSimpArgs false
theorem tw_stop (P : UInt8 → Bool) (b : UInt8) (hb : P b = false) : ∀ (g r : Text), (∀ x ∈ g, P x = true) → (g ++ b :: r).takeWhile P = g ∧ (g ++ b :: r).dropWhile P = b :: r
  | [], r, _ => by simp [hb]
  | c :: g, r, h => by
    obtain ⟨h1, h2⟩ := tw_stop P b hb g r (fun x hx => h x (.tail _ hx))
    rw [List.cons_append, List.takeWhile_cons, List.dropWhile_cons, if_pos (h c (.head _)), if_pos (h c (.head _)), h1, h2]
    exact ⟨rfl, rfl⟩
def gapP (g : Text) : Prop := g ≠ [] ∧ ∀ x ∈ g, blankC.contains x = true
theorem gap_stop {g : Text} (hg : gapP g) (b : UInt8) (r : Text) (hb : blankC.contains b = false) : gapL (g ++ b :: r) = b :: r ∧ (g ++ b :: r).takeWhile (blankC.contains ·) = g := by
  obtain ⟨h1, h2⟩ := tw_stop (blankC.contains ·) b hb g r hg.2
  exact ⟨h2, h1⟩
theorem name_one (c : UInt8) (hc : firstC.contains c = true) (ho : otherC.contains c = true) {g : Text} (hg : gapP g) (r : Text) : nameL (c :: (g ++ r)) = ([c], g ++ r) := by
  rw [nameL_yes hc]
  obtain ⟨hne, hall⟩ := hg
  match g, hne, hall with
  | x :: g, _, hall =>
    have hx : otherC.contains x = false := by
      have h1 := hall x (.head _)
      have : ∀ x : Fin 256, blankC.contains (UInt8.ofNat x.val) = true → otherC.contains (UInt8.ofNat x.val) = false := by decide +kernel
      have := this ⟨x.toNat, x.toNat_lt⟩
      simp only [UInt8.ofNat_toNat] at this
      exact this h1
    rw [List.cons_append]
    have := tw_stop (otherC.contains ·) x hx [c] (g ++ r) (fun y hy => by rw [List.mem_singleton.1 hy]; exact ho)
    rw [List.singleton_append] at this
    rw [this.1, this.2]
theorem ats_one {g v s : Text} (hg : gapP g) (h39 : 39 ∉ v) (hv : backO v = some s) (r : Text) (d : Nat) : openG (d + 2) [] (g ++ 98 :: (g ++ 61 :: (g ++ 39 :: (v ++ 39 :: (g ++ 62 :: r))))) = some ([([98], s)], false, r) := by
  obtain ⟨e1, e2⟩ := gap_stop hg 98 (g ++ 61 :: (g ++ 39 :: (v ++ 39 :: (g ++ 62 :: r)))) (by decide)
  have ha : attrO (98 :: (g ++ 61 :: (g ++ 39 :: (v ++ 39 :: (g ++ 62 :: r))))) = some ([98], s, g ++ 62 :: r) := by
    unfold attrO
    rw [name_one 98 (by decide) (by decide) hg]
    simp only
    rw [if_neg (by simp), (gap_stop hg 61 _ (by decide)).1]
    simp only
    rw [(gap_stop hg 39 _ (by decide)).1]
    have hval : valO (39 :: (v ++ 39 :: (g ++ 62 :: r))) = some (s, g ++ 62 :: r) := by
      show (if (39 : UInt8) = 39 ∨ (39 : UInt8) = 34 then valM 39 (v ++ 39 :: (g ++ 62 :: r)) else none) = _
      rw [if_pos (.inl rfl)]
      unfold valM
      obtain ⟨t1, t2⟩ := tw_some 39 v (g ++ 62 :: r) h39
      rw [t1, t2, if_neg (by simp), hv]; rfl
    rw [hval]; rfl
  rw [openG, e1, if_neg (by rintro ⟨t, ht⟩; injection ht with ht _; revert ht; decide), if_neg (by rintro ⟨t, ht⟩; injection ht with ht _; revert ht; decide), ha]
  simp only
  rw [e2, if_neg hg.1, if_neg (by decide), openG, (gap_stop hg 62 r (by decide)).1, if_neg (by rintro ⟨t, ht⟩; injection ht with ht _; revert ht; decide), if_pos ⟨r, rfl⟩]
  rfl
def fileL (g v : Text) : Text := 60 :: 97 :: (g ++ 98 :: (g ++ 61 :: (g ++ 39 :: (v ++ 39 :: (g ++ 62 :: (v ++ 60 :: 47 :: 97 :: (g ++ [62])))))))
theorem open_one {g v s : Text} (hg : gapP g) (h39 : 39 ∉ v) (hv : backO v = some s) : nextO (fileL g v) = some (⟨1, [97], [], [([98], s)], false⟩, v ++ 60 :: 47 :: 97 :: (g ++ [62])) := by
  unfold nextO fileL
  rw [if_neg (by rintro ⟨t, ht⟩; injection ht with _ ht; injection ht with ht _; revert ht; decide), if_pos ⟨_, rfl⟩, List.drop_succ_cons, List.drop_zero]
  unfold openO
  rw [name_one 97 (by decide) (by decide) hg]
  simp only
  rw [if_neg (by simp), List.length_cons, show ∀ n : Nat, n + 1 + 1 = n + 2 from fun n => rfl, ats_one hg h39 hv]
  rfl
theorem shut_one {g : Text} (hg : gapP g) : nextO (60 :: 47 :: 97 :: (g ++ [62])) = some (⟨2, [97], [], [], false⟩, []) := by
  unfold nextO
  rw [if_pos ⟨_, rfl⟩]
  unfold shutO
  rw [List.drop_succ_cons, List.drop_succ_cons, List.drop_zero, name_one 97 (by decide) (by decide) hg]
  simp only
  rw [if_neg (by simp), (gap_stop hg 62 [] (by decide)).1]
  rfl
theorem text_one {v s r : Text} (hne : v ≠ []) (h60 : 60 ∉ v) (hv : backO v = some s) : nextO (v ++ 60 :: r) = some (⟨3, [], s, [], false⟩, 60 :: r) := by
  match v, hne with
  | c :: t, _ =>
    have hc : c ≠ 60 := fun e => h60 (e ▸ .head _)
    unfold nextO
    rw [List.cons_append, if_neg (by rintro ⟨x, hx⟩; injection hx with hx _; exact hc hx.symm), if_neg (by rintro ⟨x, hx⟩; injection hx with hx _; exact hc hx.symm), ← List.cons_append]
    obtain ⟨t1, t2⟩ := tw_some 60 (c :: t) r h60
    rw [t1, t2, hv]; rfl
theorem row_exact0 {N : Nat} {l : Text} {x : List (Pc × Int)} (h : Row N l x) : ∀ d, l.length < d → toksG d N l = .ok x := by
  induction h with
  | nil =>
    intro d hd
    obtain ⟨d, rfl⟩ : ∃ j, d = j + 1 := ⟨d - 1, by simp only [List.length_nil] at hd; omega⟩
    rw [toksG, if_pos rfl]
  | @cons l r p x h0 hn hc hr ih =>
    intro d hd
    obtain ⟨d, rfl⟩ : ∃ j, d = j + 1 := ⟨d - 1, by omega⟩
    have hlen := nextO_len h0 hn
    rw [toksG, if_neg h0, hn]
    simp only
    rw [if_neg (by omega), ih d (by omega)]
def piecesL (N : Nat) (g v s : Text) : List (Pc × Int) :=
  (⟨1, [97], [], [([98], s)], false⟩, ((N - (fileL g v).length : Nat) : Int)) :: ((if v = [] then [] else [(⟨3, [], s, [], false⟩, ((N - (v ++ 60 :: 47 :: 97 :: (g ++ [62])).length : Nat) : Int))]) ++ [(⟨2, [97], [], [], false⟩, ((N - (60 :: 47 :: 97 :: (g ++ [62]) : Text).length : Nat) : Int))])
theorem file_row (N : Nat) {g v s : Text} (hg : gapP g) (h39 : 39 ∉ v) (h60 : 60 ∉ v) (hv : backO v = some s) : Row N (fileL g v) (piecesL N g v s) := by
  have last : Row N (60 :: 47 :: 97 :: (g ++ [62])) [(⟨2, [97], [], [], false⟩, ((N - (60 :: 47 :: 97 :: (g ++ [62]) : Text).length : Nat) : Int))] := .cons (by simp) (shut_one hg) (Nat.zero_le _) .nil
  refine .cons (by unfold fileL; simp) (open_one hg h39 hv) (by show 1 ≤ 10; decide) ?_
  by_cases h : v = []
  · rw [if_pos h, h, List.nil_append, List.nil_append]
    exact last
  · rw [if_neg h]
    exact .cons (by simp) (text_one h h60 hv) (Nat.zero_le _) last
def gapsL : List ByteArray := [(⟨#[32]⟩ : ByteArray), (⟨#[9, 10]⟩ : ByteArray), (⟨#[32, 32]⟩ : ByteArray), (⟨#[13, 32]⟩ : ByteArray)]
theorem gaps_all : ∀ i : Fin 4, (rdOf ByteArray.empty gapsL (i.val : Int)).size ≤ 2 ∧ validT (rdOf ByteArray.empty gapsL (i.val : Int)) = true ∧ (rdOf ByteArray.empty gapsL (i.val : Int)).data.toList ≠ [] ∧ (rdOf ByteArray.empty gapsL (i.val : Int)).data.toList.all (blankC.contains ·) = true := by decide +kernel
theorem u64_four (a : Int) : ∃ i : Nat, i < 4 ∧ wrap64 (Int.tmod (IntKind.u64.wrap a) 4) = (i : Int) := by
  have h0 : 0 ≤ IntKind.u64.wrap a := by rw [IntKind.wrap_u64]; omega
  have h1 : Int.tmod (IntKind.u64.wrap a) 4 = IntKind.u64.wrap a % 4 := Int.tmod_eq_emod_of_nonneg h0
  refine ⟨(IntKind.u64.wrap a % 4).toNat, by omega, ?_⟩
  rw [h1, wrap_small (by omega) (by omega)]
  omega
theorem file_ba (g v : Text) : ((((((((((((((⟨#[60, 97]⟩ : ByteArray) ++ ba g) ++ (⟨#[98]⟩ : ByteArray)) ++ ba g) ++ (⟨#[61]⟩ : ByteArray)) ++ ba g) ++ (⟨#[39]⟩ : ByteArray)) ++ ba v) ++ (⟨#[39]⟩ : ByteArray)) ++ ba g) ++ (⟨#[62]⟩ : ByteArray)) ++ ba v) ++ (⟨#[60, 47, 97]⟩ : ByteArray)) ++ ba g) ++ (⟨#[62]⟩ : ByteArray) = ba (fileL g v) := by
  rw [show (⟨#[60, 97]⟩ : ByteArray) = ba [60, 97] from rfl, show (⟨#[98]⟩ : ByteArray) = ba [98] from rfl, show (⟨#[61]⟩ : ByteArray) = ba [61] from rfl, show (⟨#[39]⟩ : ByteArray) = ba [39] from rfl, show (⟨#[62]⟩ : ByteArray) = ba [62] from rfl, show (⟨#[60, 47, 97]⟩ : ByteArray) = ba [60, 47, 97] from rfl]
  simp only [ba_append]
  congr 1
  unfold fileL
  simp
theorem file_valid {g v : Text} (hg : validT (ba g) = true) (hv : validT (ba v) = true) : validT (ba (fileL g v)) = true := by
  have k1 : validT (⟨#[60, 97]⟩ : ByteArray) = true := by decide +kernel
  have k2 : validT (⟨#[98]⟩ : ByteArray) = true := by decide +kernel
  have k3 : validT (⟨#[61]⟩ : ByteArray) = true := by decide +kernel
  have k4 : validT (⟨#[39]⟩ : ByteArray) = true := by decide +kernel
  have k5 : validT (⟨#[62]⟩ : ByteArray) = true := by decide +kernel
  have k6 : validT (⟨#[60, 47, 97]⟩ : ByteArray) = true := by decide +kernel
  rw [← file_ba]
  have e0 := validT_app _ _ k1 hg
  have e1 := validT_app _ _ e0 k2
  have e2 := validT_app _ _ e1 hg
  have e3 := validT_app _ _ e2 k3
  have e4 := validT_app _ _ e3 hg
  have e5 := validT_app _ _ e4 k4
  have e6 := validT_app _ _ e5 hv
  have e7 := validT_app _ _ e6 k4
  have e8 := validT_app _ _ e7 hg
  have e9 := validT_app _ _ e8 k5
  have e10 := validT_app _ _ e9 hv
  have e11 := validT_app _ _ e10 k6
  have e12 := validT_app _ _ e11 hg
  have e13 := validT_app _ _ e12 k5
  exact e13
theorem ends_gen (s : ByteArray) (X : List S39) (hlen : X.length = 2 ∧ s.toList = [] ∨ X.length = 3 ∧ s.toList ≠ [] ∧ ((rd_T39 X 1).f3).toList = s.toList) (h4 : ((rd_T39 X 0).f4).length = 1) (hv : ((rd_T41 ((rd_T39 X 0).f4) 0).f1).toList = s.toList) (h5 : (rd_T39 X 0).f5 = false) : (if (0 : Int) = 0 then (if (X.length : Int) < 2 then (some false) else (if 0 < (X.length : Int) then (if (((rd_T39 X 0).f4).length : Int) = 1 then (if 0 < (((rd_T39 X 0).f4).length : Int) then (if ((rd_T41 ((rd_T39 X 0).f4) 0).f1).toList = s.toList then (if (rd_T39 X 0).f5 = true then (some false) else (if s.toList = ([] : List UInt8) then (if (X.length : Int) = 2 then (some true) else (if (X.length : Int) = 3 then (if 1 < (X.length : Int) then (if ((rd_T39 X 1).f3).toList = s.toList then (some true) else (some false)) else (none)) else (some false))) else (if (X.length : Int) = 3 then (if 1 < (X.length : Int) then (if ((rd_T39 X 1).f3).toList = s.toList then (some true) else (some false)) else (none)) else (some false)))) else (some false)) else (none)) else (some false)) else (none))) else (some false) : Option Bool) = some true := by
  rw [if_pos rfl, if_neg (by omega), if_pos (by omega), if_pos (by omega), if_pos (by omega), if_pos hv, h5, if_neg Bool.false_ne_true]
  rcases hlen with ⟨h1, h2⟩ | ⟨h1, h2, h3⟩
  · rw [if_pos h2, if_pos (by omega)]
  · rw [if_neg h2, if_pos (by omega), if_pos (by omega), if_pos h3]
theorem tok_texts (s : ByteArray) (hs : s.size ≤ 500) (hv : validT s = true) (n : Int) : ∃ K, ∀ k, K ≤ k → cardexlaw08_TokenTexts.j0 k s n false = some true := by
  obtain ⟨i, hi, ei⟩ := u64_four n
  obtain ⟨a1, a2, a3, a4⟩ := gaps_all ⟨i, hi⟩
  simp only at a1 a2 a3 a4
  generalize hG : rdOf ByteArray.empty gapsL (i : Int) = G at a1 a2 a3 a4
  have hvl := escL_len s.data.toList
  rw [size_list] at hvl
  have hg : gapP G.data.toList := ⟨a3, fun x hx => List.all_eq_true.1 a4 x hx⟩
  have hgood := escL_good s hv
  have hval := escL_valid s hv
  have hno : ∀ b, badB b = true → b ∉ escL s.data.toList := fun b hb hm => by
    rw [List.any_eq_false] at hgood
    exact hgood b hm hb
  have hback : backO (escL s.data.toList) = some s.data.toList := by
    unfold backO
    rw [if_pos hval, escL_come]
  generalize hV : escL s.data.toList = v at hvl hgood hval hno hback
  have hgs : G.data.toList.length ≤ 2 := by rw [size_list]; exact a1
  have hfl : (fileL G.data.toList v).length ≤ 10000 := by
    unfold fileL
    simp only [List.length_cons, List.length_append, List.length_nil]
    omega
  have hrow := file_row (fileL G.data.toList v).length hg (hno 39 (by decide)) (hno 60 (by decide)) hback
  obtain ⟨K, hK⟩ := Tokens_f (ba (fileL G.data.toList v)) (by rw [ba_size]; omega)
  have hF : toksF (ba (fileL G.data.toList v)) = ((piecesL (fileL G.data.toList v).length G.data.toList v s.data.toList).map mkT, 0, 0) := by
    obtain ⟨y, h1, h2, h3⟩ := row_toks hrow ((fileL G.data.toList v).length + 1) (fileL G.data.toList v).length (by omega)
    have hx : toksG ((fileL G.data.toList v).length + 1) (fileL G.data.toList v).length (fileL G.data.toList v) = .ok (piecesL (fileL G.data.toList v).length G.data.toList v s.data.toList) := row_exact0 hrow _ (by omega)
    unfold toksF
    rw [ba_size, if_neg (by omega), if_pos (file_valid (by rw [ba_of]; exact a2) hval), ba_list, no_prolog (open_one hg (hno 39 (by decide)) hback), hx]
    rfl
  refine ⟨K + s.size + 50, fun k hk => ?_⟩
  obtain ⟨k, rfl⟩ : ∃ j, k = j + 1 := ⟨k - 1, by omega⟩
  have hre := ref_escape s (by omega) k (by omega)
  rw [hV] at hre
  have z1 : (⟨#[60, 97]⟩ : ByteArray).size = 2 := rfl
  have z2 : (⟨#[98]⟩ : ByteArray).size = 1 := rfl
  have z3 : (⟨#[61]⟩ : ByteArray).size = 1 := rfl
  have z4 : (⟨#[39]⟩ : ByteArray).size = 1 := rfl
  have z5 : (⟨#[62]⟩ : ByteArray).size = 1 := rfl
  have z6 : (⟨#[60, 47, 97]⟩ : ByteArray).size = 3 := rfl
  have zv : (ba v).size = v.length := ba_size v
  have hgG : ba G.data.toList = G := ba_of G
  have hfb := file_ba G.data.toList v
  rw [hgG] at hfb
  rw [cardexlaw08_TokenTexts.j0, if_neg Bool.false_ne_true, Option.bind_some, ei]
  unfold gapsL at hG
  rw [if_pos (by omega), if_pos (by show (i : Int) < 4; omega), hG, hre, Option.bind_some]
  iterate 14 (rw [if_pos (by (try simp only [ByteArray.size_append, z1, z2, z3, z4, z5, z6, zv]); omega)])
  rw [hfb, hK k (by omega), hF, Option.bind_some, awake8_up k (by omega), Option.bind_some, if_pos rfl]
  have hst : s.toList = s.data.toList := ByteArray.toList_eq s
  have hba : (ba s.data.toList).toList = s.data.toList := ba_toList _
  unfold piecesL
  by_cases hv0 : v = []
  · have hs0 : s.data.toList = [] := by
      rw [hv0] at hback
      unfold backO at hback
      rw [if_pos (by decide +kernel)] at hback
      exact (Option.some.inj hback).symm
    rw [if_pos hv0]
    exact ends_gen s _ (.inl ⟨rfl, hst.trans hs0⟩) rfl (hba.trans hst.symm) rfl
  · have hs0 : s.data.toList ≠ [] := fun e => hv0 (by rw [← hV, e]; rfl)
    rw [if_neg hv0]
    exact ends_gen s _ (.inr ⟨rfl, fun e => hs0 (hst.symm.trans e), hba.trans hst.symm⟩) rfl (hba.trans hst.symm) rfl
theorem tokenTexts (s : ByteArray) (n : Int) (hs : s.size ≤ 140737488351232) (hn : (Lit.int .i64 n).wf = true) : ∃ k, cardexlaw08_TokenTexts.f k s n = some true := by
  have far : ∀ k, 40 ≤ k → cardexlaw08_TokenTexts.j0 (k + 1) s n true = some true := by
    intro k hk
    rw [cardexlaw08_TokenTexts.j0, if_pos rfl, awake8_up k hk]; rfl
  by_cases h1 : (s.size : Int) > 500
  · refine ⟨41, ?_⟩
    unfold cardexlaw08_TokenTexts.f
    rw [if_pos h1]; exact far 40 (by omega)
  cases hv : validT s with
  | false =>
    refine ⟨s.size + 50, ?_⟩
    unfold cardexlaw08_TokenTexts.f
    rw [if_neg h1, ref_valid s hs _ (by omega), hv, Option.bind_some]
    exact far _ (by omega)
  | true =>
    obtain ⟨K, hK⟩ := tok_texts s (by omega) hv n
    refine ⟨K + s.size + 50, ?_⟩
    unfold cardexlaw08_TokenTexts.f
    rw [if_neg h1, ref_valid s hs _ (by omega), hv, Option.bind_some]
    exact hK _ (by omega)
end Go.Proofs.YtjijbncheikagaaDoor.P
