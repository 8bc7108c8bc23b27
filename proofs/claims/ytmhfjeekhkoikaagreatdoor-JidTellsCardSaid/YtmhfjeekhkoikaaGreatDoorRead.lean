/- A law's arguments, as the row's readings have them, are what the print's kinds read: one fact a kind. -/
import Derived.Test.YtmhfjeekhkoikaaGreatDoorWWords
import Derived.Test.YtmhfjeekhkoikaaGreatDoorWMore
import Derived.ChangeArms
import Derived.ChangeShapes
import Derived.SizedLaws
namespace Go.Proofs.YtmhfjeekhkoikaaGreatDoorX
open Go Go.RowKit Go.Proofs.YtmhfjeekhkoikaaGreatDoorW.PrintWords Go.Proofs.YtmhfjeekhkoikaaGreatDoorW.PrintMore
set_option linter.unusedVariables false
structure Bulk (H : Type) where
  one : DataW H → Nat
  all : List (DataW H) → Nat
  str : ∀ l, one (.lit (.string l)) = l.length + 1
  int : ∀ k n, one (.lit (.int k n)) = 1
  bool : ∀ b, one (.lit (.bool b)) = 1
  nil : one .nil = 1
  slice : ∀ a b, one (.slice a b) = all a + all b + 1
  agg : ∀ a, one (.agg a) = all a + 1
  empty : all [] = 0
  cons : ∀ d r, all (d :: r) = one d + all r
structure Rd {α : Type} (P : Program) (t : TypeId) (d : Kd α) where
  rel : {H : Type} → DataW H → α → Prop
  ok : Nat → α → Prop
  mu : α → Nat
  sized : ∀ {H : Type} {y : DataW H} {x : α} {B : Nat}, rel y x → (∀ n ∈ y.weights P t, n ≤ B) → ok B x
  bulky : ∀ {H : Type} {y : DataW H} {x : α} (b : Bulk H), rel y x → mu x ≤ b.one y
  opens : ∀ {H : Type} {enc : TypeId × Value → H} {W : World} {base : Nat} {spare : Nat → Bool} {held : Bool} {n : Nat} {cs : List Value} {y : DataW H × List MemPlace},
    DataW.trod enc P W base spare held n t cs = some y → ∃ x : α, rel y.1 x ∧ d.K W x cs
def Rd.string {P : Program} {t : TypeId} (ht : P.underlying t = some .string) : Rd P t Kd.string where
  rel := fun y x => y = .lit (.string x.data.toList)
  ok := fun B x => x.size ≤ B
  mu := fun x => x.size + 1
  sized := fun {H y x B} h hn => by
    have := hn x.data.toList.length (by rw [h]; simp [DataW.weights])
    rw [Array.length_toList] at this
    exact this
  bulky := fun {H y x} b h => by rw [h, b.str, Array.length_toList]; exact Nat.le_refl _
  opens := by
    intro H enc W base spare held n cs y h
    obtain ⟨x, rfl, rfl, _⟩ := DataW.trod_string ht h
    exact ⟨x, rfl, rfl⟩
structure RdF {α : Type} (P : Program) (fs : List Field) (o : Nat) (d : Kd α) where
  rel : {H : Type} → List (DataW H) → α → Prop
  ok : Nat → α → Prop
  mu : α → Nat
  sized : ∀ {H : Type} {ys : List (DataW H)} {x : α} {B : Nat}, rel ys x → (∀ n ∈ DataW.weightsEach P (fs.map (·.type)) ys, n ≤ B) → ok B x
  bulky : ∀ {H : Type} {ys : List (DataW H)} {x : α} (b : Bulk H), rel ys x → mu x ≤ b.all ys
  opens : ∀ {H : Type} {enc : TypeId × Value → H} {W : World} {base : Nat} {spare : Nat → Bool} {held : Bool} {n : Nat} {cs : List Value} {ys : List (DataW H × List MemPlace)},
    (∀ (i : Nat) (f : Field), fs[i]? = some f → DataW.trod enc P W base spare held n f.type ((cs.drop (f.offset - o)).take (P.cellsOf f.type)) = ys[i]?) → ys.length = fs.length → cs.length = d.sz → ∃ x : α, rel (ys.map (·.1)) x ∧ d.K W x cs
def RdF.one {α : Type} {P : Program} {f : Field} {o : Nat} {d : Kd α} (r : Rd P f.type d) (ho : f.offset = o) (hz : P.cellsOf f.type = d.sz) : RdF P [f] o d where
  rel := fun ys x => ∃ y, ys = [y] ∧ r.rel y x
  ok := r.ok
  mu := r.mu
  sized := fun {H ys x B} h hn => by
    obtain ⟨y, rfl, hr⟩ := h
    exact r.sized hr (fun n hm => hn n (by simp [DataW.weightsEach, hm]))
  bulky := fun {H ys x} b h => by
    obtain ⟨y, rfl, hr⟩ := h
    rw [b.cons, b.empty]
    exact r.bulky b hr
  opens := by
    intro H enc W base spare held n cs ys h hl hc
    match ys, hl with
    | [y], _ =>
      have h0 := h 0 f rfl
      rw [ho, Nat.sub_self, List.drop_zero, hz, List.take_of_length_le (by omega)] at h0
      obtain ⟨x, hr, hk⟩ := r.opens h0
      exact ⟨x, ⟨y.1, rfl, hr⟩, hk⟩
def RdF.cons {α β : Type} {P : Program} {f : Field} {fs : List Field} {o : Nat} {d : Kd α} {e : Kd β} (r : Rd P f.type d) (rs : RdF P fs (o + d.sz) e) (ho : f.offset = o) (hz : P.cellsOf f.type = d.sz) (hf : ∀ g ∈ fs, o + d.sz ≤ g.offset) : RdF P (f :: fs) o (Kd.pair d e) where
  rel := fun ys x => ∃ y zs, ys = y :: zs ∧ r.rel y x.1 ∧ rs.rel zs x.2
  ok := fun B x => r.ok B x.1 ∧ rs.ok B x.2
  mu := fun x => r.mu x.1 + rs.mu x.2
  sized := fun {H ys x B} h hn => by
    obtain ⟨y, zs, rfl, hr, hs⟩ := h
    exact ⟨r.sized hr (fun n hm => hn n (by simp [DataW.weightsEach, hm])), rs.sized hs (fun n hm => hn n (by simp [DataW.weightsEach, hm]))⟩
  bulky := fun {H ys x} b h => by
    obtain ⟨y, zs, rfl, hr, hs⟩ := h
    rw [b.cons]
    have h1 := r.bulky b hr
    have h2 := rs.bulky b hs
    omega
  opens := by
    intro H enc W base spare held n cs ys h hl hc
    match ys, hl with
    | y :: zs, hl =>
      have hc' : cs.length = d.sz + e.sz := hc
      have h0 := h 0 f rfl
      rw [ho, Nat.sub_self, List.drop_zero, hz] at h0
      obtain ⟨x, hr, hk⟩ := r.opens h0
      have hs := rs.opens (enc := enc) (W := W) (base := base) (spare := spare) (held := held) (n := n) (cs := cs.drop d.sz) (ys := zs) (fun i g hg => by
        have h1 := h (i + 1) g (by simpa using hg)
        have hm := hf g (List.mem_of_getElem? hg)
        rw [List.drop_drop, show d.sz + (g.offset - (o + d.sz)) = g.offset - o by omega]
        simpa using h1) (by simpa using hl) (by rw [List.length_drop]; omega)
      obtain ⟨z, hr2, hk2⟩ := hs
      exact ⟨(x, z), ⟨y.1, zs.map (·.1), rfl, hr, hr2⟩, cs.take d.sz, cs.drop d.sz, (List.take_append_drop _ _).symm, hk, hk2⟩
def Rd.struct {α β : Type} {P : Program} {t : TypeId} {fs : Array Field} {d : Kd α} (ht : P.underlying t = some (.struct fs)) (f : β → α) (g : α → β) (hfg : ∀ a, f (g a) = a) (r : RdF P fs.toList 0 d) (hz : P.cellsOf t = d.sz) : Rd P t (Kd.iso d f) where
  rel := fun y x => ∃ ys, y = .agg ys ∧ r.rel ys (f x)
  ok := fun B x => r.ok B (f x)
  mu := fun x => r.mu (f x) + 1
  sized := fun {H y x B} h hn => by
    obtain ⟨ys, rfl, hr⟩ := h
    exact r.sized hr (fun n hm => hn n (by unfold DataW.weights; rw [ht]; exact hm))
  bulky := fun {H y x} b h => by
    obtain ⟨ys, rfl, hr⟩ := h
    rw [b.agg]
    have := r.bulky b hr
    omega
  opens := by
    intro H enc W base spare held n cs y h
    obtain ⟨xs, m, _, rfl, hl, hlen, hf⟩ := DataW.trod_struct ht h
    obtain ⟨x, hr, hk⟩ := r.opens (enc := enc) (W := W) (base := base) (spare := spare) (held := held) (n := m) (cs := cs) (ys := xs) (fun i fd hi => by
      rw [Nat.sub_zero]
      exact hf i fd (by simpa using hi)) (by simpa using hlen) (by rw [hl, hz])
    exact ⟨g x, ⟨xs.map (·.1), rfl, by rw [hfg]; exact hr⟩, by show d.K W (f (g x)) cs; rw [hfg]; exact hk⟩
end Go.Proofs.YtmhfjeekhkoikaaGreatDoorX
