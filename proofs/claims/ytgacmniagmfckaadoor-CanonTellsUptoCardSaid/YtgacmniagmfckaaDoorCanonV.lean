/- canon in plain words: what nodes are as a file: the program's text is the document's. -/
import Derived.Test.YtgacmniagmfckaaDoorCanonU
namespace Go.Proofs.YtgacmniagmfckaaDoor.P
open Go.RowKit Go.Lib Go.Proofs.YtgacmniagmfckaaDoorX Go.Proofs.YtgacmniagmfckaaDoorW.PrintWords Go.Proofs.YtgacmniagmfckaaDoor.Q
set_option linter.unusedVariables false
set_option linter.unusedSimpArgs false
def wtA : List S29 → Nat
  | [] => 0
  | a :: r => a.f0.size + 6 * a.f1.size + 4 + wtA r
def wtN (x : S32) : Nat := 2 * x.f2.size + 6 * x.f3.size + 6 * x.f5.size + wtA x.f4 + 40
def wtL : List S32 → Nat
  | [] => 0
  | x :: r => wtN x + wtL r
theorem attrsO_len : ∀ (l : List S29) (s : ByteArray), (attrsO s l).size ≤ s.size + wtA l
  | [], s => Nat.le_refl _
  | a :: r, s => by
    have h := attrsO_len r (s ++ attrT a.f0 (escT a.f1))
    have e := escT_len a.f1
    rw [ByteArray.size_append, attrT_size] at h
    show (attrsO (s ++ attrT a.f0 (escT a.f1)) r).size ≤ s.size + (a.f0.size + 6 * a.f1.size + 4 + wtA r)
    omega
theorem head_len (x : S32) (ab : ByteArray) : (headT ⟨#[]⟩ x ab).size ≤ 10 + x.f2.size + 6 * x.f3.size + wtA x.f4 := by
  unfold headT
  have e := escT_len x.f3
  refine Nat.le_trans (attrsO_len _ _) ?_
  split
  · rw [emp_app, ByteArray.size_append]
    show 1 + x.f2.size + wtA x.f4 ≤ _
    omega
  · rw [emp_app, ByteArray.size_append, ByteArray.size_append, attrT_size]
    show 1 + x.f2.size + (5 + (escT x.f3).size + 4) + wtA x.f4 ≤ _
    omega
def catK (T : Nat → ByteArray) : List Int → ByteArray
  | [] => ⟨#[]⟩
  | j :: r => T j.toNat ++ catK T r
def nodeX (x : S32) (ab : ByteArray) (ks : List Int) (T : Nat → ByteArray) : ByteArray :=
  if x.f5.toList = [] ∧ ks = [] then headT ⟨#[]⟩ x ab ++ (⟨#[47, 62]⟩ : ByteArray)
  else ((headT ⟨#[]⟩ x ab ++ ((⟨#[62]⟩ : ByteArray) ++ escT x.f5)) ++ catK T ks) ++ tailT x
theorem nodeX_len (x : S32) (ab : ByteArray) (ks : List Int) (T : Nat → ByteArray) : (nodeX x ab ks T).size ≤ wtN x + (catK T ks).size := by
  have h := head_len x ab
  have e := escT_len x.f5
  unfold nodeX wtN
  split
  · rw [ByteArray.size_append]
    show _ + 2 ≤ _
    omega
  · have ht : (tailT x).size = 2 + x.f2.size + 1 := by unfold tailT; rw [ByteArray.size_append, ByteArray.size_append]; rfl
    rw [ByteArray.size_append, ByteArray.size_append, ByteArray.size_append, ByteArray.size_append, ht]
    show _ + (1 + (escT x.f5).size) + _ + _ ≤ _
    omega
theorem kids_cat (f : Int → Option ByteArray) (T : Nat → ByteArray) : ∀ ks : List Int, (∀ j ∈ ks, f j = some (T j.toNat)) → kidsT f ks = some (catK T ks)
  | [], _ => rfl
  | j :: r, h => by
    rw [kidsT, h j (.head _), Option.bind_some, kids_cat f T r (fun y hy => h y (.tail _ hy))]; rfl
theorem prog_node (L : List S32) (m : Nat) (hm : m < L.length) (hl : L.length < 1000000) (ab : ByteArray) (ha : aboveT L (m : Int) = some ab) (T : Nat → ByteArray) (k : Nat) (hk : L.length + 2 ≤ k) (hT : ∀ j ∈ kidsP (m : Int) L 0, nodeT k L j = some (T j.toNat)) :
    nodeT (k + 1) L (m : Int) = some (nodeX L[m] ab (kidsP (m : Int) L 0) T) := by
  rw [nodeT, if_pos ⟨by omega, by omega⟩, ha, Option.bind_some, kids_ev L m (by omega) hm k hk, Option.bind_some, rd32_get L m hm]
  unfold nodeX
  split
  · rfl
  · rw [kids_cat _ T _ hT]; rfl
theorem ref_kids_loop (L : List S32) (p : Nat) (hp : p < L.length) (hl : L.length < 1000000) : ∀ (d i k : Nat) (acc : List Int), i + d = L.length → acc.length ≤ i → cardexref08_Kids.l0 (k + 2 * d + 2) L (p : Int) acc (i : Int) = some (acc ++ kidsP (p : Int) (L.drop i) i)
  | 0, i, k, acc, hi, ha => by
    rw [show k + 2 * 0 + 2 = (k + 1) + 1 by omega, cardexref08_Kids.l0, if_neg (by omega), cardexref08_Kids.j1, if_neg Bool.false_ne_true, List.drop_eq_nil_of_le (by omega)]
    simp [kidsP]
  | d + 1, i, k, acc, hi, ha => by
    have hlt : i < L.length := by omega
    rw [show k + 2 * (d + 1) + 2 = (k + 2 * d + 2 + 1) + 1 by omega, cardexref08_Kids.l0, if_pos (by omega), if_pos (by omega), decide_eq_true (by omega), cardexref08_Kids.j1, if_pos rfl, if_pos (by omega), if_pos (by omega), up1 i (by omega), rd32_get L i hlt, List.drop_eq_getElem_cons hlt, kidsP]
    by_cases h : L[i].f0 = (p : Int)
    · rw [if_pos h, if_pos h, if_pos (by omega), ref_kids_loop L p hp hl d (i + 1) k _ (by omega) (by simp; omega), List.append_assoc]
      rfl
    · rw [if_neg h, if_neg h, ref_kids_loop L p hp hl d (i + 1) k _ (by omega) (by omega)]
theorem ref_kids (L : List S32) (p : Nat) (hp : p < L.length) (hl : L.length < 1000000) (k : Nat) (hk : 2 * L.length + 2 ≤ k) : cardexref08_Kids.f k L (p : Int) = some (kidsP (p : Int) L 0) := by
  obtain ⟨k', rfl⟩ : ∃ k', k = k' + 2 * L.length + 2 := ⟨k - 2 * L.length - 2, by omega⟩
  exact ref_kids_loop L p hp hl L.length 0 k' [] (by omega) (by simp)
theorem attr_loop (L : List S32) (i a b : Int) (c e g : ByteArray) (l : List S29) (hs : SmallA l) (hl : l.length ≤ 10000000) : ∀ (d j k : Nat) (s : ByteArray), j + d = l.length → s.size + wtA (l.drop j) ≤ 1000000000000 → 20000000 ≤ k →
    cardexref08_write.l0 (k + d + 1) L i s (j : Int) a b c e l g = cardexref08_write.l0 (k + 1) L i (attrsO s (l.drop j)) (l.length : Int) a b c e l g
  | 0, j, k, s, hj, hz, hk => by
    obtain rfl : j = l.length := by omega
    rw [List.drop_eq_nil_of_le (Nat.le_refl _)]
    rfl
  | d + 1, j, k, s, hj, hz, hk => by
    have hlt : j < l.length := by omega
    obtain ⟨h1, h2⟩ := hs _ (List.getElem_mem hlt)
    have he := ref_escape l[j].f1 (by omega) (k + d + 1) (by omega)
    have hle := escT_len l[j].f1
    have hE : (ba (escL l[j].f1.data.toList)) = escT l[j].f1 := rfl
    rw [hE] at he
    rw [List.drop_eq_getElem_cons hlt] at hz ⊢
    rw [wtA] at hz
    have s1 : (⟨#[32]⟩ : ByteArray).size = 1 := rfl
    have s2 : (⟨#[61, 39]⟩ : ByteArray).size = 2 := rfl
    have s3 : (⟨#[39]⟩ : ByteArray).size = 1 := rfl
    rw [show k + (d + 1) + 1 = (k + d + 1) + 1 by omega, cardexref08_write.l0, if_pos (by omega), if_pos (by omega), if_pos (by omega), rd29_get l j hlt]
    rw [if_pos (by simp only [ByteArray.size_append, s1, s2, s3]; omega), if_pos (by simp only [ByteArray.size_append, s1, s2, s3]; omega), he, Option.bind_some, if_pos (by simp only [ByteArray.size_append, s1, s2, s3]; omega), if_pos (by simp only [ByteArray.size_append, s1, s2, s3]; omega), up1 j (by omega)]
    have hx : ((((s ++ (⟨#[32]⟩ : ByteArray)) ++ l[j].f0) ++ (⟨#[61, 39]⟩ : ByteArray)) ++ escT l[j].f1) ++ (⟨#[39]⟩ : ByteArray) = s ++ attrT l[j].f0 (escT l[j].f1) := by
      unfold attrT
      simp only [ByteArray.append_assoc]
    rw [hx, attr_loop L i a b c e g l hs hl d (j + 1) k _ (by omega) (by rw [ByteArray.size_append, attrT_size]; omega) hk]
    rfl
theorem kid_loop (L : List S32) (ks : List Int) (T : Nat → ByteArray) (K a b : Int) (c e g : ByteArray) (l : List S29) (k0 : Nat) (hT : ∀ j ∈ ks, ∀ k, k0 ≤ k → cardexref08_write.f k L j e = some (T j.toNat)) (hn : ks.length < 1000000) : ∀ (d j k : Nat) (s : ByteArray), j + d = ks.length → s.size + (catK T (ks.drop j)).size + c.size ≤ 1000000000000 → k0 ≤ k →
    cardexref08_write.l1 (k + d + 1) L s ks (j : Int) a b c e l g = some ((s ++ catK T (ks.drop j)) ++ (((⟨#[60, 47]⟩ : ByteArray) ++ c) ++ (⟨#[62]⟩ : ByteArray)))
  | 0, j, k, s, hj, hz, hk => by
    have s1 : (⟨#[60, 47]⟩ : ByteArray).size = 2 := rfl
    rw [cardexref08_write.l1, if_neg (by omega), if_pos (by omega), if_pos (by simp only [ByteArray.size_append, s1]; omega), if_pos (by simp only [ByteArray.size_append, s1]; omega), List.drop_eq_nil_of_le (by omega)]
    show some _ = some ((s ++ (⟨#[]⟩ : ByteArray)) ++ _)
    rw [app_emp]
    simp only [ByteArray.append_assoc]
  | d + 1, j, k, s, hj, hz, hk => by
    have hlt : j < ks.length := by omega
    have hrd : rd ks (j : Int) = ks[j] := by
      unfold rd
      rw [Int.toNat_natCast, List.getD_eq_getElem?_getD, List.getElem?_eq_getElem hlt]; rfl
    rw [List.drop_eq_getElem_cons hlt] at hz ⊢
    rw [catK, ByteArray.size_append] at hz
    rw [show k + (d + 1) + 1 = (k + d + 1) + 1 by omega, cardexref08_write.l1, if_pos (by omega), if_pos (by omega), hrd, hT _ (List.getElem_mem hlt) _ (by omega), Option.bind_some, if_pos (by omega), up1 j (by omega)]
    rw [kid_loop L ks T K a b c e g l k0 hT hn d (j + 1) k _ (by omega) (by rw [ByteArray.size_append]; omega) hk, catK]
    simp only [ByteArray.append_assoc]
theorem ref_node (L : List S32) (m : Nat) (hm : m < L.length) (hl : L.length < 1000) (hS : SmallN L[m]) (ab : ByteArray) (T : Nat → ByteArray) (k0 : Nat) (hT : ∀ j ∈ kidsP (m : Int) L 0, ∀ k, k0 ≤ k → cardexref08_write.f k L j L[m].f3 = some (T j.toNat))
    (hn : (kidsP (m : Int) L 0).length ≤ L.length) (hz : wtN L[m] + (catK T (kidsP (m : Int) L 0)).size ≤ 100000000000) : ∃ K, ∀ k, K ≤ k → cardexref08_write.f k L (m : Int) ab = some (nodeX L[m] ab (kidsP (m : Int) L 0) T) := by
  obtain ⟨ks, hks⟩ : ∃ ks, ks = kidsP (m : Int) L 0 := ⟨_, rfl⟩
  obtain ⟨x, hx⟩ : ∃ x, x = L[m] := ⟨_, rfl⟩
  rw [← hks] at hT hn hz ⊢
  rw [← hx] at hT hz hS ⊢
  obtain ⟨h2, h3, h5, h4, ha⟩ := hS
  have hhl := head_len x ab
  have he5 := escT_len x.f5
  have he3 := escT_len x.f3
  unfold wtN at hz
  obtain ⟨N0, hN0⟩ : ∃ N0 : Nat, N0 = k0 + 20000000 + 4 * L.length + 100 := ⟨_, rfl⟩
  refine ⟨(N0 + x.f4.length + 1) + 1 + 1, le_rounds (f := fun k => cardexref08_write.f k L (m : Int) ab) (fun k => cardexref08_write.mono L (m : Int) ab k) ?_⟩
  -- behind the attributes
  have tail : cardexref08_write.l0 (N0 + 1) L (m : Int) (headT ⟨#[]⟩ x ab) (x.f4.length : Int) x.f0 x.f1 x.f2 x.f3 x.f4 x.f5 = some (nodeX x ab ks T) := by
    rw [cardexref08_write.l0, if_neg (by omega), ref_kids L m hm (by omega) N0 (by omega), Option.bind_some, ← hks]
    have big : ∀ (hne : ¬ (x.f5.toList = [] ∧ ks = [])), cardexref08_write.j2 N0 L (headT ⟨#[]⟩ x ab) ks false x.f0 x.f1 x.f2 x.f3 x.f4 x.f5 = some (nodeX x ab ks T) := by
      intro hne
      have he : cardexref01_Escape.f (N0 - 1) x.f5 = some (escT x.f5) := ref_escape x.f5 (by omega) (N0 - 1) (by omega)
      have s1 : (⟨#[62]⟩ : ByteArray).size = 1 := rfl
      rw [show N0 = (N0 - 1) + 1 by omega, cardexref08_write.j2, if_neg Bool.false_ne_true, if_pos (by omega), he, Option.bind_some, if_pos (by simp only [ByteArray.size_append, s1]; omega)]
      have hk := kid_loop L ks T 0 x.f0 x.f1 x.f2 x.f3 x.f5 x.f4 k0 hT (by omega) ks.length 0 (N0 - 1 - ks.length - 1) ((headT ⟨#[]⟩ x ab ++ (⟨#[62]⟩ : ByteArray)) ++ escT x.f5) (by omega) (by rw [List.drop_zero]; simp only [ByteArray.size_append, s1]; omega) (by omega)
      rw [show N0 - 1 - ks.length - 1 + ks.length + 1 = N0 - 1 by omega, List.drop_zero] at hk
      refine hk.trans ?_
      unfold nodeX tailT
      rw [if_neg hne]
      simp only [ByteArray.append_assoc]
    by_cases h5e : x.f5.toList = []
    · rw [if_pos h5e]
      cases hks2 : ks with
      | nil =>
        rw [show N0 = (N0 - 1) + 1 by omega, show (((([] : List Int).length : Nat) : Int) == 0) = true from rfl, cardexref08_write.j2, if_pos rfl, if_pos (by omega)]
        unfold nodeX
        rw [if_pos ⟨h5e, rfl⟩]
      | cons y r =>
        rw [show ((((y :: r).length : Nat) : Int) == 0) = false from beq_eq_false_iff_ne.mpr (by simp only [List.length_cons]; omega), ← hks2]
        exact big (fun h => by rw [hks2] at h; cases h.2)
    · rw [if_neg h5e]
      exact big (fun h => h5e h.1)
  have attrs : ∀ s0, headT ⟨#[]⟩ x ab = attrsO s0 x.f4 → s0.size + wtA x.f4 ≤ 1000000000000 → cardexref08_write.j0 (N0 + x.f4.length + 1 + 1) L (m : Int) s0 x.f0 x.f1 x.f2 x.f3 x.f4 x.f5 = some (nodeX x ab ks T) := by
    intro s0 hs0 hsz
    rw [cardexref08_write.j0]
    have h := attr_loop L (m : Int) x.f0 x.f1 x.f2 x.f3 x.f5 x.f4 ha h4 x.f4.length 0 N0 s0 (by omega) (by rw [List.drop_zero]; exact hsz) (by omega)
    rw [List.drop_zero, ← hs0, tail] at h
    exact h
  rw [cardexref08_write.f, if_pos (by omega), if_pos (by omega), rd32_get L m hm, ← hx, if_pos (by omega)]
  by_cases hsp : x.f3.toList = ab.toList
  · rw [if_pos hsp]
    refine attrs _ ?_ (by rw [ByteArray.size_append]; show 1 + x.f2.size + _ ≤ _; omega)
    unfold headT
    rw [if_pos hsp, emp_app]
  · have s1 : (⟨#[60]⟩ : ByteArray).size = 1 := rfl
    have s2 : (⟨#[32, 120, 109, 108, 110, 115, 61, 39]⟩ : ByteArray).size = 8 := rfl
    have s3 : (⟨#[39]⟩ : ByteArray).size = 1 := rfl
    have he : cardexref01_Escape.f (N0 + x.f4.length + 1 + 1) x.f3 = some (escT x.f3) := ref_escape x.f3 (by omega) _ (by omega)
    rw [if_neg hsp, if_pos (by simp only [ByteArray.size_append, s1]; omega), he, Option.bind_some, if_pos (by simp only [ByteArray.size_append, s1, s2]; omega), if_pos (by simp only [ByteArray.size_append, s1, s2]; omega)]
    refine attrs _ ?_ (by simp only [ByteArray.size_append, s1, s2, s3]; omega)
    unfold headT
    rw [if_neg hsp, emp_app]
    congr 1
    unfold attrT
    rw [show (⟨#[32, 120, 109, 108, 110, 115, 61, 39]⟩ : ByteArray) = ((⟨#[32]⟩ : ByteArray) ++ spaceT) ++ (⟨#[61, 39]⟩ : ByteArray) by decide +kernel]
    simp only [ByteArray.append_assoc]
end Go.Proofs.YtgacmniagmfckaaDoor.P
