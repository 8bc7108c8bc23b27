/- A law's arguments, as the row's readings have them, are what the print's kinds read: one fact a kind. -/
import Derived.Test.YtgacmniagmfckaaDoorWWords
import Derived.Test.YtgacmniagmfckaaDoorWMore
import Derived.ChangeArms
import Derived.ChangeShapes
import Derived.SizedLaws
namespace Go.Proofs.YtgacmniagmfckaaDoorX
open Go Go.RowKit Go.Proofs.YtgacmniagmfckaaDoorW.PrintWords Go.Proofs.YtgacmniagmfckaaDoorW.PrintMore
set_option linter.unusedVariables false
structure Bulk (H : Type) where
  one : DataW H → Nat
  all : List (DataW H) → Nat
  str : ∀ l, one (.lit (.string l)) = l.length + 1
  int : ∀ k n, one (.lit (.int k n)) = 1
  bool : ∀ b, one (.lit (.bool b)) = 1
  nil : one .nil = 1
  slice : ∀ a b, one (.slice a b) = all a + all b + 1
  agg : ∀ a, one (.agg a) = all a + 1
  empty : all [] = 0
  cons : ∀ d r, all (d :: r) = one d + all r
structure Rd {α : Type} (P : Program) (t : TypeId) (d : Kd α) where
  rel : {H : Type} → DataW H → α → Prop
  ok : Nat → α → Prop
  mu : α → Nat
  sized : ∀ {H : Type} {y : DataW H} {x : α} {B : Nat}, rel y x → (∀ n ∈ y.weights P t, n ≤ B) → ok B x
  bulky : ∀ {H : Type} {y : DataW H} {x : α} (b : Bulk H), rel y x → mu x ≤ b.one y
  opens : ∀ {H : Type} {enc : TypeId × Value → H} {W : World} {base : Nat} {spare : Nat → Bool} {held : Bool} {n : Nat} {cs : List Value} {y : DataW H × List MemPlace},
    DataW.trod enc P W base spare held n t cs = some y → ∃ x : α, rel y.1 x ∧ d.K W x cs
def Rd.int {P : Program} {t : TypeId} (k : IntKind) (ht : P.underlying t = some (.int k)) : Rd P t (Kd.int k) where
  rel := fun y x => y = .lit (.int k x) ∧ (Lit.int k x).wf = true
  ok := fun _ x => (Lit.int k x).wf = true
  mu := fun _ => 1
  sized := fun h _ => h.2
  bulky := fun b h => by rw [h.1, b.int]; exact Nat.le_refl _
  opens := by
    intro H enc W base spare held n cs y h
    obtain ⟨x, rfl, rfl, hw⟩ := DataW.trod_int ht h
    exact ⟨x, ⟨rfl, hw⟩, rfl⟩
structure RdF {α : Type} (P : Program) (fs : List Field) (o : Nat) (d : Kd α) where
  rel : {H : Type} → List (DataW H) → α → Prop
  ok : Nat → α → Prop
  mu : α → Nat
  sized : ∀ {H : Type} {ys : List (DataW H)} {x : α} {B : Nat}, rel ys x → (∀ n ∈ DataW.weightsEach P (fs.map (·.type)) ys, n ≤ B) → ok B x
  bulky : ∀ {H : Type} {ys : List (DataW H)} {x : α} (b : Bulk H), rel ys x → mu x ≤ b.all ys
  opens : ∀ {H : Type} {enc : TypeId × Value → H} {W : World} {base : Nat} {spare : Nat → Bool} {held : Bool} {n : Nat} {cs : List Value} {ys : List (DataW H × List MemPlace)},
    (∀ (i : Nat) (f : Field), fs[i]? = some f → DataW.trod enc P W base spare held n f.type ((cs.drop (f.offset - o)).take (P.cellsOf f.type)) = ys[i]?) → ys.length = fs.length → cs.length = d.sz → ∃ x : α, rel (ys.map (·.1)) x ∧ d.K W x cs
def All2 {α β : Type} (R : α → β → Prop) : List α → List β → Prop
  | [], [] => True
  | a :: as, b :: bs => R a b ∧ All2 R as bs
  | _, _ => False
theorem All2.length {α β : Type} {R : α → β → Prop} : ∀ {as : List α} {bs : List β}, All2 R as bs → as.length = bs.length
  | [], [], _ => rfl
  | _ :: _, _ :: _, h => by simp [All2.length h.2]
  | [], _ :: _, h => h.elim
  | _ :: _, [], h => h.elim
theorem elems_read {α : Type} {P : Program} {e : TypeId} {d : Kd α} (r : Rd P e d) (hz : P.cellsOf e = d.sz) {H : Type} {enc : TypeId × Value → H} {W : World} {base : Nat} {spare : Nat → Bool} {held : Bool} {n : Nat} {a : Addr} (elems : List (DataW H × List MemPlace))
    (h : ∀ i, i < elems.length → (W.cells? base (a.add (i * P.cellsOf e)) (P.cellsOf e)).bind (DataW.trod enc P W base spare held n e) = elems[i]?) :
    ∃ xs : List α, All2 r.rel (elems.map (·.1)) xs ∧ ∀ j p, xs[j]? = some p → ∃ c, c.length = d.sz ∧ d.K W p c ∧ W.cells? base (a.add (j * d.sz)) d.sz = some c := by
  have one : ∀ i (hi : i < elems.length), ∃ p : α, r.rel elems[i].1 p ∧ ∃ c, c.length = d.sz ∧ d.K W p c ∧ W.cells? base (a.add (i * d.sz)) d.sz = some c := by
    intro i hi
    have h0 := h i hi
    rw [List.getElem?_eq_getElem hi] at h0
    obtain ⟨c, hc, ht⟩ := Option.bind_eq_some_iff.1 h0
    obtain ⟨p, hr, hk⟩ := r.opens ht
    rw [hz] at hc
    exact ⟨p, hr, c, d.K_len hk, hk, hc⟩
  have build : ∀ (m : Nat), m ≤ elems.length → ∃ xs : List α, All2 r.rel ((elems.drop (elems.length - m)).map (·.1)) xs ∧ ∀ j p, xs[j]? = some p → ∃ c, c.length = d.sz ∧ d.K W p c ∧ W.cells? base (a.add ((elems.length - m + j) * d.sz)) d.sz = some c := by
    intro m
    induction m with
    | zero => intro _; exact ⟨[], by rw [Nat.sub_zero, List.drop_length]; trivial, fun j p hj => by simp at hj⟩
    | succ m ih =>
      intro hm
      obtain ⟨xs, h1, h2⟩ := ih (by omega)
      have hi : elems.length - (m + 1) < elems.length := by omega
      obtain ⟨p, hr, c, hcl, hk, hc⟩ := one _ hi
      refine ⟨p :: xs, ?_, ?_⟩
      · rw [List.drop_eq_getElem_cons hi, show elems.length - (m + 1) + 1 = elems.length - m by omega]
        exact ⟨hr, h1⟩
      · intro j q hj
        cases j with
        | zero =>
          have : p = q := by simpa using hj
          subst this
          exact ⟨c, hcl, hk, by simpa using hc⟩
        | succ j =>
          obtain ⟨c2, e1, e2, e3⟩ := h2 j q (by simpa using hj)
          refine ⟨c2, e1, e2, ?_⟩
          rw [show elems.length - (m + 1) + (j + 1) = elems.length - m + j by omega]
          exact e3
  obtain ⟨xs, h1, h2⟩ := build elems.length (Nat.le_refl _)
  rw [Nat.sub_self, List.drop_zero] at h1
  refine ⟨xs, h1, fun j p hj => ?_⟩
  have := h2 j p hj
  rw [Nat.sub_self, Nat.zero_add] at this
  exact this
theorem all2_sized {α : Type} {P : Program} {e : TypeId} {d : Kd α} (r : Rd P e d) {H : Type} {B : Nat} : ∀ (elems : List (DataW H)) (xs : List α), All2 r.rel elems xs → (∀ n ∈ DataW.weightsAll P e elems, n ≤ B) → ∀ x ∈ xs, r.ok B x
  | [], [], _, _, x, hx => by cases hx
  | y :: ys, z :: zs, h, hn, x, hx => by
    rcases List.mem_cons.1 hx with rfl | hx
    · exact r.sized h.1 (fun n hm => hn n (by simp [DataW.weightsAll, hm]))
    · exact all2_sized r ys zs h.2 (fun n hm => hn n (by simp [DataW.weightsAll, hm])) x hx
  | [], _ :: _, h, _, _, _ => h.elim
  | _ :: _, [], h, _, _, _ => h.elim
theorem all2_bulky {α : Type} {P : Program} {e : TypeId} {d : Kd α} (r : Rd P e d) {H : Type} (b : Bulk H) : ∀ (elems : List (DataW H)) (xs : List α), All2 r.rel elems xs → (xs.map r.mu).sum ≤ b.all elems
  | [], [], _ => by simp
  | y :: ys, z :: zs, h => by
    rw [b.cons, List.map_cons, List.sum_cons]
    have h1 := r.bulky b h.1
    have h2 := all2_bulky r b ys zs h.2
    omega
  | [], _ :: _, h => h.elim
  | _ :: _, [], h => h.elim
theorem cells_at {w : World} {base : Nat} {a : Addr} {n : Nat} {cs : List Value} (h : w.cells? base a n = some cs) : ∀ i u, cs[i]? = some u → w.cell? (a.add i) = some u := by
  obtain ⟨_, hl, hc⟩ := World.cells?_some h
  intro i u hi
  have hlt : i < n := by
    rcases Nat.lt_or_ge i cs.length with h1 | h1
    · omega
    · rw [List.getElem?_eq_none h1] at hi; cases hi
  rw [hc i hlt]
  exact hi
def Rd.slice {α : Type} {P : Program} {t e : TypeId} {d : Kd α} (ht : P.underlying t = some (.slice e)) (r : Rd P e d) (hz : P.cellsOf e = d.sz) : Rd P t (Kd.slice e d) where
  rel := fun y xs => (y = .nil ∧ xs = []) ∨ ∃ elems rest, y = .slice elems rest ∧ All2 r.rel elems xs
  ok := fun B xs => xs.length * P.bytesOf e ≤ B ∧ ∀ x ∈ xs, r.ok B x
  mu := fun xs => (xs.map r.mu).sum + 1
  sized := fun {H y xs B} h hn => by
    rcases h with ⟨rfl, rfl⟩ | ⟨elems, rest, rfl, ha⟩
    · exact ⟨by simp, fun x hx => by cases hx⟩
    · unfold DataW.weights at hn
      rw [ht] at hn
      have h0 := hn ((elems.length + rest.length) * P.bytesOf e) (by simp)
      have hl := ha.length
      refine ⟨Nat.le_trans (Nat.mul_le_mul_right _ (by omega)) h0, ?_⟩
      exact all2_sized r elems xs ha (fun n hm => hn n (by simp [hm]))
  bulky := fun {H y xs} b h => by
    rcases h with ⟨rfl, rfl⟩ | ⟨elems, rest, rfl, ha⟩
    · rw [b.nil]; exact Nat.le_refl _
    · rw [b.slice]
      have := all2_bulky r b elems xs ha
      omega
  opens := by
    intro H enc W base spare held n cs y h
    rcases DataW.trod_slice ht h with ⟨rfl, rfl⟩ | ⟨a, len, cap, elems, rest, m, _, rfl, rfl, _, hl, hm, he, hc, _, _⟩
    · exact ⟨[], .inl ⟨rfl, rfl⟩, none, 0, rfl, Nat.le_refl _, rfl, Nat.zero_le _, fun h => by simp at h⟩
    · obtain ⟨xs, h1, h2⟩ := elems_read r hz elems (fun i hi => hc i (by omega))
      have hlen := h1.length
      rw [List.length_map] at hlen
      refine ⟨xs, .inr ⟨_, _, rfl, h1⟩, some a, cap, by rw [← hlen, he], by omega, rfl, by unfold maxLen at hm; omega, fun _ => ⟨a, rfl, fun j p hj => ?_⟩⟩
      obtain ⟨c, e1, e2, e3⟩ := h2 j p hj
      refine ⟨c, e1, e2, fun i u hu => ?_⟩
      have := cells_at e3 i u hu
      rw [Addr.add_add] at this
      exact this
end Go.Proofs.YtgacmniagmfckaaDoorX
