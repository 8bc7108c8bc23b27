/- canon in plain words: what nodes lie in a node, and flat trees: they are right, and what they are as a file. -/
import Derived.Test.YtgacmniagmfckaaDoorEscC
import Derived.Test.YtgacmniagmfckaaDoorRefV
namespace Go.Proofs.YtgacmniagmfckaaDoor.P
open Go.RowKit Go.Lib Go.Proofs.YtgacmniagmfckaaDoorX Go.Proofs.YtgacmniagmfckaaDoorW.PrintWords Go.Proofs.YtgacmniagmfckaaDoor.Q
set_option linter.unusedVariables false
set_option linter.unusedSimpArgs false
theorem le_rounds {α : Type} {f : Nat → Option α} (h : ∀ k, LeO (f k) (f (k + 1))) {k0 : Nat} {r : α} (h0 : f k0 = some r) : ∀ k, k0 ≤ k → f k = some r := by
  intro k hk
  obtain ⟨d, rfl⟩ : ∃ d, k = k0 + d := ⟨k - k0, by omega⟩
  clear hk
  induction d with
  | zero => exact h0
  | succ d ih => exact h _ _ ih
theorem up1 (i : Nat) (h : i < 1000000000) : wrap64 ((i : Int) + 1) = ((i + 1 : Nat) : Int) := by
  rw [w64 (by omega) (by omega)]; omega
theorem rd32_get (l : List S32) (i : Nat) (h : i < l.length) : rd_T32 l (i : Int) = l[i] := by
  unfold rd_T32
  rw [Int.toNat_natCast, List.getD_eq_getElem?_getD, List.getElem?_eq_getElem h]; rfl
def kidsP (p : Int) : List S32 → Nat → List Int
  | [], _ => []
  | x :: r, i => if x.f0 = p then (i : Int) :: kidsP p r (i + 1) else kidsP p r (i + 1)
theorem kids_loop (l : List S32) (p : Int) (hl : l.length < 1000000000) : ∀ (d i k : Nat) (acc : List Int), i + d = l.length → acc.length ≤ i → tree_Kids.l0 (k + d + 1) p acc l (l.length : Int) (i : Int) = some (acc ++ kidsP p (l.drop i) i)
  | 0, i, k, acc, hi, ha => by
    rw [tree_Kids.l0, if_neg (by omega), List.drop_eq_nil_of_le (by omega)]
    simp [kidsP]
  | d + 1, i, k, acc, hi, ha => by
    have hlt : i < l.length := by omega
    rw [show k + (d + 1) + 1 = (k + d + 1) + 1 by omega, tree_Kids.l0, if_pos (by omega), if_pos (by omega), if_pos (by omega), up1 i (by omega), rd32_get l i hlt, List.drop_eq_getElem_cons hlt, kidsP]
    by_cases h : l[i].f0 = p
    · rw [if_pos h, if_pos h, if_pos (by omega), kids_loop l p hl d (i + 1) k _ (by omega) (by simp <;> omega), List.append_assoc]
      rfl
    · rw [if_neg h, if_neg h, kids_loop l p hl d (i + 1) k _ (by omega) (by omega)]
theorem kids_ev (l : List S32) (i : Nat) (hl : l.length < 1000000000) (hi : i < l.length) (k : Nat) (hk : l.length + 2 ≤ k) : tree_Kids.f k l (i : Int) = some (kidsP (i : Int) l 0) := by
  obtain ⟨k', rfl⟩ : ∃ k', k = (k' + l.length + 1) + 1 := ⟨k - l.length - 2, by omega⟩
  unfold tree_Kids.f
  rw [if_neg (by omega), decide_eq_false (by omega), tree_Kids.j0, if_neg Bool.false_ne_true]
  exact kids_loop l i hl l.length 0 k' [] (by omega) (by simp)
theorem nameK : canon_name.f ⟨#[107]⟩ = some true := by decide +kernel
theorem valid_f (s : ByteArray) (h : s.size ≤ 17592186044415) : utf_Valid.f s = some (validT s) := if_pos h
theorem emp_list : (⟨#[]⟩ : ByteArray).toList = [] := by rw [ByteArray.toList_eq]
def rootN : S32 := ⟨(-1), 0, (⟨#[114]⟩ : ByteArray), (⟨#[]⟩ : ByteArray), [], (⟨#[]⟩ : ByteArray)⟩
def kidN (sp tx : ByteArray) : S32 := ⟨0, 0, (⟨#[107]⟩ : ByteArray), sp, [], tx⟩
def KidOk (x : S32) : Prop := ∃ sp tx, x = kidN sp tx ∧ sp.size ≤ 1 ∧ tx.size ≤ 100 ∧ validT sp = true ∧ validT tx = true
theorem alone_kid {x : S32} (h : KidOk x) : x.f0 = 0 ∧ canon_alone.f x.f0 x.f1 x.f2 x.f3 x.f4 x.f5 = some true := by
  obtain ⟨sp, tx, rfl, h1, h2, h3, h4⟩ := h
  refine ⟨rfl, ?_⟩
  show canon_alone.f 0 0 (⟨#[107]⟩ : ByteArray) sp [] tx = some true
  unfold canon_alone.f
  rw [nameK, Option.bind_some, if_pos rfl, valid_f tx (by omega), h4, Option.bind_some, if_pos rfl, valid_f sp (by omega), h3, Option.bind_some, if_pos rfl]
  rfl
theorem alone_root : canon_alone.f rootN.f0 rootN.f1 rootN.f2 rootN.f3 rootN.f4 rootN.f5 = some true := by decide +kernel
theorem flat_loop (ks : List S32) (hk : ∀ x ∈ ks, KidOk x) (hn : ks.length ≤ 1000) : ∀ (d i k : Nat) (way : List Int), i + d = ks.length → (way = [0] ∨ ∃ j : Nat, 0 < j ∧ way = [0, (j : Int)]) → canon_Right.l0 (k + 3 * d + 1) (rootN :: ks) way (rootN :: ks) ((rootN :: ks).length : Int) ((i + 1 : Nat) : Int) = some true
  | 0, i, k, way, hi, hw => by
    rw [canon_Right.l0, if_neg (by simp <;> omega)]
  | d + 1, i, k, way, hi, hw => by
    have hlt : i < ks.length := by omega
    have hx : rd_T32 (rootN :: ks) ((i + 1 : Nat) : Int) = ks[i] := by
      rw [rd32_get _ _ (by simp <;> omega)]; simp
    obtain ⟨h0, hal⟩ := alone_kid (hk _ (List.getElem_mem hlt))
    have e0 : rd_T32 (rootN :: ks) 0 = rootN := rfl
    have main : ∀ k', canon_Right.l1 (k' + 1) (rootN :: ks) [0] ((i + 1 : Nat) : Int) (rootN :: ks) ((rootN :: ks).length : Int) ((i + 1 : Nat) : Int) ks[i].f0 ks[i].f1 ks[i].f2 ks[i].f3 ks[i].f4 ks[i].f5 = canon_Right.l0 k' (rootN :: ks) [0, ((i + 1 : Nat) : Int)] (rootN :: ks) ((rootN :: ks).length : Int) ((i + 2 : Nat) : Int) := by
      intro k'
      have hup : ((decide ((([0] : List Int).length : Int) > 0)) != (decide (((i + 1 : Nat) : Int) > 0))) = false := by
        rw [decide_eq_true (by omega : ((i + 1 : Nat) : Int) > 0)]; rfl
      have hw0 : wrap64 ((([0] : List Int).length : Int) - 1) = 0 := by rw [w64 (by decide) (by decide)]; rfl
      rw [canon_Right.l1, hw0, hup, hal, h0, e0]
      rw [if_pos (by decide), if_pos (by decide), if_pos (by decide), if_pos (show rd [0] 0 = 0 from rfl), if_neg Bool.false_ne_true, Option.bind_some, if_pos rfl, if_neg (by decide), if_pos (by decide), if_pos (by simp <;> omega), if_pos (show rootN.f5.toList = [] from emp_list), if_pos (by decide), up1 (i + 1) (by omega)]
      rfl
    rw [show k + 3 * (d + 1) + 1 = (k + 3 * d + 3) + 1 by omega, canon_Right.l0, if_pos (by simp <;> omega), if_pos (by omega), if_pos (by simp <;> omega), hx]
    rcases hw with rfl | ⟨j, hj, rfl⟩
    · rw [show k + 3 * d + 3 = (k + 1 + 3 * d + 1) + 1 by omega, main]
      exact flat_loop ks hk hn d (i + 1) (k + 1) _ (by omega) (.inr ⟨i + 1, by omega, rfl⟩)
    · have hne : ¬ ((j : Int) = 0) := by omega
      have hw1 : wrap64 ((([0, (j : Int)] : List Int).length : Int) - 1) = 1 := by rw [w64 (by show (-9223372036854775808 : Int) ≤ 2 - 1; decide) (by show (2 : Int) - 1 ≤ 9223372036854775807; decide)]; rfl
      rw [show k + 3 * d + 3 = (k + 3 * d + 1 + 1) + 1 by omega, canon_Right.l1, hw1]
      rw [if_pos (by show (2 : Int) > 0; decide), if_pos (by decide), if_pos (by show (1 : Int) < 2; decide), if_neg (by rw [h0]; exact hne), if_pos (by show (1 : Int) ≤ 2; decide)]
      show canon_Right.l1 (k + 3 * d + 1 + 1) (rootN :: ks) [0] _ _ _ _ _ _ _ _ _ _ = _
      rw [main]
      exact flat_loop ks hk hn d (i + 1) k _ (by omega) (.inr ⟨i + 1, by omega, rfl⟩)
theorem flat_right (ks : List S32) (hk : ∀ x ∈ ks, KidOk x) (hn : ks.length ≤ 900) (k : Nat) (hK : 3 * ks.length + 5 ≤ k) : canon_Right.f k (rootN :: ks) = some true := by
  obtain ⟨k', rfl⟩ : ∃ k', k = ((k' + 3 * ks.length + 1) + 1 + 1) + 1 := ⟨k - 3 * ks.length - 4, by omega⟩
  unfold canon_Right.f
  rw [if_neg (by simp <;> omega), decide_eq_false (by simp <;> omega), canon_Right.j0, if_neg Bool.false_ne_true, canon_Right.l0, if_pos (by simp <;> omega), if_pos (by omega), if_pos (by simp <;> omega)]
  rw [show rd_T32 (rootN :: ks) 0 = rootN from rfl, canon_Right.l1, if_neg (by decide), if_neg (by decide), if_pos (by decide), alone_root, Option.bind_some, if_pos rfl, if_neg (by decide), if_pos (by decide)]
  have h := flat_loop ks hk (by omega) ks.length 0 k' _ (by omega) (.inl rfl)
  rw [show wrap64 (0 + 1) = ((0 + 1 : Nat) : Int) from by rw [w64 (by decide) (by decide)]; rfl]
  exact h
theorem escL_len : ∀ l : List UInt8, (escL l).length ≤ 6 * l.length
  | [] => Nat.le_refl _
  | b :: r => by
    have h1 := escB_len b
    have h2 := escL_len r
    have e : escL (b :: r) = escB b ++ escL r := rfl
    rw [e, List.length_append, List.length_cons]
    omega
theorem escT_len (v : ByteArray) : (escT v).size ≤ 6 * v.size := by
  have h := escL_len v.data.toList
  have e : (escT v).size = (escL v.data.toList).length := by show (escL v.data.toList).toArray.size = _; simp
  rw [e]
  have : v.data.toList.length = v.size := rfl
  omega
def kidT (x : S32) : ByteArray := if x.f5.toList = [] then headT ⟨#[]⟩ x ⟨#[]⟩ ++ (⟨#[47, 62]⟩ : ByteArray) else (headT ⟨#[]⟩ x ⟨#[]⟩ ++ ((⟨#[62]⟩ : ByteArray) ++ escT x.f5)) ++ tailT x
def catT : List S32 → ByteArray
  | [] => ⟨#[]⟩
  | x :: r => kidT x ++ catT r
theorem emp_app (x : ByteArray) : (⟨#[]⟩ : ByteArray) ++ x = x := ByteArray.empty_append
theorem app_emp (x : ByteArray) : x ++ (⟨#[]⟩ : ByteArray) = x := ByteArray.append_empty
theorem catT_snoc : ∀ (l : List S32) (x : S32), catT (l ++ [x]) = catT l ++ kidT x
  | [], x => by
    show kidT x ++ (⟨#[]⟩ : ByteArray) = ⟨#[]⟩ ++ kidT x
    rw [emp_app, app_emp]
  | y :: r, x => by
    show kidT y ++ catT (r ++ [x]) = (kidT y ++ catT r) ++ kidT x
    rw [catT_snoc r x, ByteArray.append_assoc]
theorem headK (sp tx : ByteArray) : headT ⟨#[]⟩ (kidN sp tx) ⟨#[]⟩ = if sp.toList = [] then (⟨#[60, 107]⟩ : ByteArray) else (⟨#[60, 107]⟩ : ByteArray) ++ attrT spaceT (escT sp) := by
  have e : headT ⟨#[]⟩ (kidN sp tx) ⟨#[]⟩ = if sp.toList = (⟨#[]⟩ : ByteArray).toList then (⟨#[]⟩ : ByteArray) ++ ((⟨#[60]⟩ : ByteArray) ++ (⟨#[107]⟩ : ByteArray)) else ((⟨#[]⟩ : ByteArray) ++ ((⟨#[60]⟩ : ByteArray) ++ (⟨#[107]⟩ : ByteArray))) ++ attrT spaceT (escT sp) := rfl
  rw [e, emp_list, show (⟨#[]⟩ : ByteArray) ++ ((⟨#[60]⟩ : ByteArray) ++ (⟨#[107]⟩ : ByteArray)) = ⟨#[60, 107]⟩ by decide]
theorem kidT_size {x : S32} (h : KidOk x) : (kidT x).size ≤ 1000 := by
  obtain ⟨sp, tx, rfl, h1, h2, _, _⟩ := h
  have e1 := escT_len sp
  have e2 := escT_len tx
  have hh : (headT ⟨#[]⟩ (kidN sp tx) ⟨#[]⟩).size ≤ 100 := by
    rw [headK]
    split
    · show (2 : Nat) ≤ 100; decide
    · rw [ByteArray.size_append, attrT_size]
      show 2 + (5 + (escT sp).size + 4) ≤ 100
      omega
  unfold kidT
  split
  · rw [ByteArray.size_append]
    show _ + 2 ≤ 1000
    omega
  · simp only [ByteArray.size_append]
    show _ + (1 + (escT tx).size) + (tailT (kidN sp tx)).size ≤ 1000
    have : (tailT (kidN sp tx)).size = 4 := rfl
    omega
theorem catT_size : ∀ (l : List S32), (∀ x ∈ l, KidOk x) → (catT l).size ≤ 1000 * l.length
  | [], _ => Nat.le_refl _
  | x :: r, h => by
    have h1 := kidT_size (h x (.head _))
    have h2 := catT_size r (fun y hy => h y (.tail _ hy))
    show (kidT x ++ catT r).size ≤ _
    rw [ByteArray.size_append, List.length_cons]
    omega
theorem kidsP_none (p : Int) : ∀ (l : List S32) (i : Nat), (∀ x ∈ l, x.f0 ≠ p) → kidsP p l i = []
  | [], _, _ => rfl
  | x :: r, i, h => by
    rw [kidsP, if_neg (h x (.head _))]
    exact kidsP_none p r (i + 1) (fun y hy => h y (.tail _ hy))
theorem node_kid (ks : List S32) (hk : ∀ x ∈ ks, KidOk x) (hn : ks.length ≤ 900) (i : Nat) (hi : i < ks.length) (k : Nat) (hK : ks.length + 4 ≤ k) : nodeT k (rootN :: ks) ((i + 1 : Nat) : Int) = some (kidT ks[i]) := by
  obtain ⟨k', rfl⟩ : ∃ k', k = k' + 1 := ⟨k - 1, by omega⟩
  have hx : rd_T32 (rootN :: ks) ((i + 1 : Nat) : Int) = ks[i] := by
    rw [rd32_get _ _ (by simp <;> omega)]; simp
  have h0 := (alone_kid (hk _ (List.getElem_mem hi))).1
  have ha : aboveT (rootN :: ks) ((i + 1 : Nat) : Int) = some ⟨#[]⟩ := by
    unfold aboveT
    rw [if_pos (by omega), hx, h0, if_pos ⟨Int.le_refl _, by simp <;> omega⟩]
    rfl
  have hkk : tree_Kids.f k' (rootN :: ks) ((i + 1 : Nat) : Int) = some [] := by
    rw [kids_ev (rootN :: ks) (i + 1) (by simp <;> omega) (by simp <;> omega) k' (by simp <;> omega), kidsP_none]
    intro x hx
    rcases List.mem_cons.1 hx with rfl | hx
    · show (-1 : Int) ≠ _; omega
    · rw [(alone_kid (hk x hx)).1]; omega
  rw [nodeT, if_pos ⟨by omega, by simp <;> omega⟩, ha, Option.bind_some, hkk, Option.bind_some, hx]
  unfold kidT
  by_cases h5 : ks[i].f5.toList = []
  · rw [if_pos ⟨h5, rfl⟩, if_pos h5]
  · rw [if_neg (fun h => h5 h.1), if_neg h5]
    show some (((headT ⟨#[]⟩ ks[i] ⟨#[]⟩ ++ ((⟨#[62]⟩ : ByteArray) ++ escT ks[i].f5)) ++ (⟨#[]⟩ : ByteArray)) ++ tailT ks[i]) = _
    rw [app_emp]
theorem kids_flat (ks : List S32) (hk : ∀ x ∈ ks, KidOk x) (hn : ks.length ≤ 900) (k : Nat) (hK : ks.length + 4 ≤ k) : ∀ (d i : Nat), i + d = ks.length → kidsT (nodeT k (rootN :: ks)) (kidsP 0 (ks.drop i) (i + 1)) = some (catT (ks.drop i))
  | 0, i, hi => by
    rw [List.drop_eq_nil_of_le (by omega)]; rfl
  | d + 1, i, hi => by
    have hlt : i < ks.length := by omega
    rw [List.drop_eq_getElem_cons hlt, kidsP, if_pos (alone_kid (hk _ (List.getElem_mem hlt))).1, kidsT, node_kid ks hk hn i hlt k hK, Option.bind_some, kids_flat ks hk hn k hK d (i + 1) (by omega)]
    rfl
def flatT (ks : List S32) : ByteArray := if ks = [] then (⟨#[60, 114, 47, 62]⟩ : ByteArray) else ((⟨#[60, 114, 62]⟩ : ByteArray) ++ catT ks) ++ (⟨#[60, 47, 114, 62]⟩ : ByteArray)
theorem flat_node (ks : List S32) (hk : ∀ x ∈ ks, KidOk x) (hn : ks.length ≤ 900) (k : Nat) (hK : ks.length + 5 ≤ k) : nodeT k (rootN :: ks) 0 = some (flatT ks) := by
  obtain ⟨k', rfl⟩ : ∃ k', k = k' + 1 := ⟨k - 1, by omega⟩
  have hkk : tree_Kids.f k' (rootN :: ks) 0 = some (kidsP 0 ks 1) := kids_ev (rootN :: ks) 0 (by simp <;> omega) (by simp) k' (by simp <;> omega)
  have hf := kids_flat ks hk hn k' (by omega) ks.length 0 (by omega)
  rw [List.drop_zero] at hf
  rw [nodeT, if_pos ⟨Int.le_refl _, by simp <;> omega⟩, show aboveT (rootN :: ks) 0 = some ⟨#[]⟩ from rfl, Option.bind_some, hkk, Option.bind_some]
  rw [show rd_T32 (rootN :: ks) 0 = rootN from rfl]
  cases ks with
  | nil =>
    rw [if_pos ⟨emp_list, rfl⟩, show headT ⟨#[]⟩ rootN ⟨#[]⟩ ++ (⟨#[47, 62]⟩ : ByteArray) = ⟨#[60, 114, 47, 62]⟩ by decide +kernel]
    rfl
  | cons x r =>
    rw [if_neg (fun h => by have h2 := h.2; rw [kidsP, if_pos (alone_kid (hk _ (.head _))).1] at h2; cases h2), hf, Option.bind_some, show headT ⟨#[]⟩ rootN ⟨#[]⟩ ++ ((⟨#[62]⟩ : ByteArray) ++ escT rootN.f5) = ⟨#[60, 114, 62]⟩ by decide +kernel]
    unfold flatT
    rw [if_neg (by simp)]
    rfl
theorem flat_write (ks : List S32) (hk : ∀ x ∈ ks, KidOk x) (hn : ks.length ≤ 900) (k : Nat) (hK : 3 * ks.length + 5 ≤ k) : canon_Write.f k (rootN :: ks) = some (prologT ++ flatT ks, 0) := by
  unfold canon_Write.f
  have hc := catT_size ks hk
  have hz : (prologT ++ flatT ks).size + 10 ≤ 1000000000000 := by
    rw [ByteArray.size_append]
    unfold flatT
    split
    · show 39 + 4 + 10 ≤ _; decide
    · rw [ByteArray.size_append, ByteArray.size_append]
      show 39 + (3 + _ + 4) + 10 ≤ _
      omega
  rw [flat_right ks hk hn k hK, Option.bind_some, if_pos rfl, flat_node ks hk hn k (by omega), Option.bind_some, if_pos ⟨hz, by simp <;> omega⟩]
end Go.Proofs.YtgacmniagmfckaaDoor.P
