/- Small laws of this session's own, over the kit's words: function values that are called; a first place with a property. -/
import Derived.Test.YtgacmniagmfckaaDoorProg
import Derived.WalkKit
import Derived.Deep.LoopGhost
import Derived.Deep.DeepMust
import Derived.Lib.ValidU
import Derived.Lib.ValidLaws
import Derived.Lib.MapLaws
import Derived.Lib.TrimUEq
import Derived.Lib.LaidU8T
import Derived.Lib.OthersKept
import Derived.Lib.Builder
import Derived.Lib.AppendStr
import Derived.Lib.UnsafeStr
import Derived.Test.YtgacmniagmfckaaDoorPl
import Derived.Test.YtgacmniagmfckaaDoorWWords
import Derived.Test.YtgacmniagmfckaaDoorWLast
import Derived.Test.YtgacmniagmfckaaDoorWMore
import Derived.Test.YtgacmniagmfckaaDoorWShare
import Derived.Test.YtgacmniagmfckaaDoorWApart
namespace Go.Proofs.YtgacmniagmfckaaDoorX
open Go.RowKit Go.Proofs.YtgacmniagmfckaaDoorW.PrintWords Go.Proofs.YtgacmniagmfckaaDoorW.PrintLast Go.Proofs.YtgacmniagmfckaaDoorW.PrintMore
set_option linter.unusedVariables false
set_option linter.unusedSimpArgs false
structure IsFn (P : Program) (f : FuncId) : Prop where
  ex : ∃ fn, P.funcs[f]? = some fn ∧ (fn.name == "runtime.NumGoroutine") = false ∧ fn.body.isSome = true
theorem gate_value {P : Program} {ops : Array Oper} {rest : List Oper} {o : Oper} {a : Act} {Q : Exit → Act → World → Prop} {W : World} {t : Tmp} {xs : Array Operand} {ts : Array TypeId} (_ho : o.op = .call { callee := .value (.tmp t), args := xs, argTypes := ts }) (h : wpList P ops Q (o :: rest) a W) : wpList P ops Q (o :: rest) a W := h
theorem goesV {P : Program} {ops : Array Oper} {Q : Exit → Act → World → Prop} {rest : List Oper} {oi : Oper} {a : Act} {w : World} (N : Option Tmp) (hd : oi.dst = N) (hg : oi.guard = none) {t : Tmp} {xs : Array Operand} {ts : Array TypeId}
    (hop : oi.op = .call { callee := .value (.tmp t), args := xs, argTypes := ts }) {f : FuncId} {caps : Array Value} (hv : a.tmps.getD t undef = .func (.func f) #[] caps) (hf : IsFn P f) (args : Array Value) (hargs : xs.map a.eval = args)
    (h : Calls P f (args ++ caps) w fun e w' => ∃ v, e = .returned v ∧ wpList P ops Q rest (a.put N v) w') : wpList P ops Q (oi :: rest) a w := by
  obtain ⟨fn, hf, hname, hb⟩ := hf.ex
  refine wpList_plain hg fun K hK => ?_
  have he := enters_ hf hname hb (args ++ caps) w
  have hrun : (execOp a.eval oi).run P w = .ok (.enter f (args ++ caps)) w := by
    unfold execOp
    simp [hop, resolve, Deferred.ofValue, invoke, Act.eval, hargs, hv]
    exact he
  unfold Oper.wp
  rw [hrun, Oper.upon_enter]
  refine h.mono fun e w'' hh => ?_
  obtain ⟨v, rfl, hk⟩ := hh
  subst hd
  exact hK _ _ hk
def idxP {α : Type} (g : α → Bool) (l : List α) : Int := match l.findIdx? g with | some i => i | none => -1
theorem idxP_hit {α : Type} {g : α → Bool} {l : List α} {i : Nat} (h : i < l.length) (hb : ∀ j (hj : j < i), g (l[j]'(by omega)) = false) (hx : g l[i] = true) : idxP g l = i := by
  have : l.findIdx? g = some i := by
    rw [List.findIdx?_eq_some_iff_getElem]
    exact ⟨h, hx, fun j hj => by simp [hb j hj]⟩
  unfold idxP; rw [this]
theorem idxP_none {α : Type} {g : α → Bool} {l : List α} (hb : ∀ j (hj : j < l.length), g l[j] = false) : idxP g l = -1 := by
  have : l.findIdx? g = none := by
    rw [List.findIdx?_eq_none_iff]
    intro x hx
    obtain ⟨j, hj, rfl⟩ := List.getElem_of_mem hx
    exact hb j hj
  unfold idxP; rw [this]
theorem idxP_any {α : Type} (g : α → Bool) (l : List α) : decide (0 ≤ idxP g l) = l.any g := by
  unfold idxP
  cases h : l.findIdx? g with
  | some i =>
    obtain ⟨hi, hx, _⟩ := List.findIdx?_eq_some_iff_getElem.1 h
    rw [decide_eq_true (by simp), Eq.comm, List.any_eq_true]
    exact ⟨l[i], List.getElem_mem _, hx⟩
  | none =>
    rw [decide_eq_false (by simp), Eq.comm, List.any_eq_false]
    intro x hx
    simpa using List.findIdx?_eq_none_iff.1 h x hx
theorem mem_of_getElem {α : Type} {l : List α} {i : Nat} {h : i < l.length} {x : α} (e : l[i] = x) : x ∈ l := e ▸ List.getElem_mem _
theorem below2 {w W W' : World} (h : Below w.heap.size w W) (h2 : Below W.heap.size W W') : Below w.heap.size w W' := below_then h h.size h2
theorem rd_get (l : List Int) (i : Nat) (h : i < l.length) : rd l (i : Int) = l[i] := by simp [rd, h]
theorem box_cell {w W : World} {v : Value} {t : TypeId} (hb : Below (w.alloc (.cells #[v] t)).heap.size (w.alloc (.cells #[v] t)) W) : W.cell? ⟨w.heap.size, 0, none⟩ = some v :=
  pw_cell_below hb ((blk_cell (heap_alloc_new w (.cells #[v] t)) 0).trans rfl)
theorem below_a {w W : World} {o : Obj} (hb : Below (w.alloc o).heap.size (w.alloc o) W) : Below w.heap.size w W := below2 (below_alloc (Below.refl _ _) o) hb
def runesBlk (w : World) (s : ByteArray) (e : TypeId) : Obj := .cells (((runesI s).map fun x => Value.int .i32 x).toArray ++ Array.replicate (grownCap w (runesI s).length 0 e - (runesI s).length) (.int .i32 0)) e
def runesCap (w : World) (s : ByteArray) (e : TypeId) : Nat := grownCap w (runesI s).length 0 e
theorem run_runesI {P : Program} (w : World) (src dst e : TypeId) (s : ByteArray) (hs : P.underlying src = some .string) (hd : P.underlying dst = some (.slice e)) (he : P.underlying e = some (.int .i32))
    (h46 : s.size ≤ 70368744177664) :
    (convert src dst (.string s)).run P w = .ok (.slice (some ⟨w.heap.size, 0, none⟩) (runesI s).length (runesCap w s e)) (w.drew.alloc (runesBlk w s e)) := by
  have hl : (Conv.runesFrom s s.size 0 #[]).size = (runesI s).length := by rw [runes_conv, List.size_toArray, List.length_map]
  rw [run_runes_of_string w src dst e s hs hd he (by rw [hl]; have := runesI_len s; omega)]
  unfold runesBlk runesCap
  rw [hl, runes_conv]
theorem runes_C {w w0 W : World} {s : ByteArray} {e : TypeId} (hs : s.size ≤ 70368744177664) (hb : Below (w.alloc (runesBlk w0 s e)).heap.size (w.alloc (runesBlk w0 s e)) W) :
    Kd.C (Kd.int .i32) W (some ⟨w.heap.size, 0, none⟩) (runesI s).length (runesI s) := by
  refine Kd.C_below (w := w.alloc (runesBlk w0 s e)) (Kd.C_of_reads (d := (0 : Int)) (h1 := fun _ => rfl) ⟨rfl, by have := runesI_len s; omega, fun _ => ⟨_, rfl, fun j hj => ?_⟩⟩) hb
  rw [add_plain]
  refine (blk_cell (heap_alloc_new w _) j).trans ?_
  rw [Array.getElem?_append_left (by simpa using hj)]
  simp [List.getElem?_eq_getElem hj]
theorem nemp (l : List UInt8) : (!l.isEmpty) = (l != []) := by cases l <;> rfl
theorem emp (l : List UInt8) : l.isEmpty = (l == []) := by cases l <;> rfl
structure But (B b : Nat) (w w' : World) : Prop where
  os : w'.os = w.os
  tape : w'.tape = w.tape
  output : w'.output = w.output
  size : w.heap.size ≤ w'.heap.size
  block : ∀ k, k < B → k ≠ b → w'.heap[k]? = w.heap[k]?
theorem But.refl (B b : Nat) (w : World) : But B b w w := ⟨rfl, rfl, rfl, Nat.le_refl _, fun _ _ _ => rfl⟩
theorem But.trans {B b : Nat} {w w1 w2 : World} (h : But B b w w1) (k : But B b w1 w2) : But B b w w2 :=
  ⟨k.os.trans h.os, k.tape.trans h.tape, k.output.trans h.output, Nat.le_trans h.size k.size, fun i hi hb => (k.block i hi hb).trans (h.block i hi hb)⟩
theorem But.of_below {B b : Nat} {w w1 : World} (h : Below w.heap.size w w1) (hB : B ≤ w.heap.size) : But B b w w1 :=
  ⟨h.os, h.tape, h.output, h.size, fun i hi _ => h.block i (by omega)⟩
theorem But.set {B b : Nat} {w w1 : World} (h : But B b w w1) (j : Nat) (v : Value) : But B b w (w1.setCell ⟨b, j, none⟩ v) :=
  ⟨h.os, h.tape, h.output, by simp [World.setCell]; exact h.size, fun i hi hb => (Below.heap_setCell _ _ _ _ (fun e => hb (by simpa using e))).trans (h.block i hi hb)⟩
theorem But.grown {B b : Nat} {w w1 w2 : World} (h : But B b w w1) {row : Option Nat} (hg : w1.grownBy w2 row) (hr : ∀ k, row = some k → B ≤ k) (hB : B ≤ w1.heap.size) : But B b w w2 :=
  ⟨hg.os.trans h.os, hg.tape.trans h.tape, hg.output.trans h.output, Nat.le_trans h.size hg.size, fun i hi hb => (hg.block i (by omega) (fun e => by have := hr i e.symm; omega)).trans (h.block i hi hb)⟩
theorem But.below {B b : Nat} {w0 w w1 : World} (h : But B b w w1) (k : Below w0.heap.size w0 w) (hb : w0.heap.size ≤ b) (hB : w0.heap.size ≤ B) : Below w0.heap.size w0 w1 :=
  ⟨h.os.trans k.os, h.tape.trans k.tape, h.output.trans k.output, Nat.le_trans k.size h.size, fun i hi => (h.block i (by omega) (by omega)).trans (k.block i hi)⟩
def BldAt (T e : TypeId) (B b : Nat) (p : Value) (bs : List Value) (w : World) : Prop :=
  ∃ v, w.heap[b]? = some (.cells #[p, v] T (0, 0)) ∧ w.ownsRow B e 1 v bs.length bs ∧ v.ownBlock ≠ some b
def IsBld (T e : TypeId) (B b : Nat) (bs : List Value) (w : World) : Prop := BldAt T e B b (.pointer none) bs w ∨ BldAt T e B b (.pointer (some ⟨b, 0, none⟩)) bs w
theorem IsBld.builder {T e : TypeId} {B b : Nat} {bs : List Value} {w : World} (h : IsBld T e B b bs w) (hb : b ≤ B) : Lib.IsBuilder T e b b bs w := by
  have one : ∀ p, BldAt T e B b p bs w → Lib.BuilderAt T e b b p bs w := by
    rintro p ⟨v, h1, h2, h3⟩
    refine ⟨Nat.le_refl _, v, h1, ⟨h2.1, ?_⟩, h3⟩
    rcases h2.2 with h | ⟨g, cap, cur, hv, hg, r⟩
    · exact .inl h
    · exact .inr ⟨g, cap, cur, hv, Nat.le_trans hb hg, r⟩
  rcases h with h | h
  · exact .inl (one _ h)
  · exact .inr (one _ h)
theorem IsBld.below {T e : TypeId} {B b : Nat} {bs : List Value} {w w1 : World} (h : IsBld T e B b bs w) (hb : Below w.heap.size w w1) : IsBld T e B b bs w1 := by
  have one : ∀ p, BldAt T e B b p bs w → BldAt T e B b p bs w1 := fun p ⟨v, h1, h2, h3⟩ => ⟨v, blk_below h1 hb, pw_own_below h2 hb, h3⟩
  exact h.elim (fun x => .inl (one _ x)) (fun x => .inr (one _ x))
end Go.Proofs.YtgacmniagmfckaaDoorX
