/- Small laws of this session's own, over the kit's words: function values that are called; a first place with a property. -/
import Derived.Test.YtaekklpphlcngaaGreatDoorProg
import Derived.WalkKit
import Derived.Deep.LoopGhost
import Derived.Deep.DeepMust
import Derived.Lib.ValidU
import Derived.Lib.ValidLaws
import Derived.Lib.MapLaws
import Derived.Lib.TrimUEq
import Derived.Lib.LaidU8T
import Derived.Lib.OthersKept
import Derived.Lib.Builder
import Derived.Lib.AppendStr
import Derived.Lib.UnsafeStr
import Derived.Test.YtaekklpphlcngaaGreatDoorPl
import Derived.Test.YtaekklpphlcngaaGreatDoorWWords
import Derived.Test.YtaekklpphlcngaaGreatDoorWLast
import Derived.Test.YtaekklpphlcngaaGreatDoorWMore
import Derived.Test.YtaekklpphlcngaaGreatDoorWShare
import Derived.Test.YtaekklpphlcngaaGreatDoorWApart
namespace Go.Proofs.YtaekklpphlcngaaGreatDoorX
open Go.RowKit Go.Proofs.YtaekklpphlcngaaGreatDoorW.PrintWords Go.Proofs.YtaekklpphlcngaaGreatDoorW.PrintLast Go.Proofs.YtaekklpphlcngaaGreatDoorW.PrintMore
set_option linter.unusedVariables false
set_option linter.unusedSimpArgs false
structure IsFn (P : Program) (f : FuncId) : Prop where
  ex : ∃ fn, P.funcs[f]? = some fn ∧ (fn.name == "runtime.NumGoroutine") = false ∧ fn.body.isSome = true
theorem gate_value {P : Program} {ops : Array Oper} {rest : List Oper} {o : Oper} {a : Act} {Q : Exit → Act → World → Prop} {W : World} {t : Tmp} {xs : Array Operand} {ts : Array TypeId} (_ho : o.op = .call { callee := .value (.tmp t), args := xs, argTypes := ts }) (h : wpList P ops Q (o :: rest) a W) : wpList P ops Q (o :: rest) a W := h
theorem goesV {P : Program} {ops : Array Oper} {Q : Exit → Act → World → Prop} {rest : List Oper} {oi : Oper} {a : Act} {w : World} (N : Option Tmp) (hd : oi.dst = N) (hg : oi.guard = none) {t : Tmp} {xs : Array Operand} {ts : Array TypeId}
    (hop : oi.op = .call { callee := .value (.tmp t), args := xs, argTypes := ts }) {f : FuncId} {caps : Array Value} (hv : a.tmps.getD t undef = .func (.func f) #[] caps) (hf : IsFn P f) (args : Array Value) (hargs : xs.map a.eval = args)
    (h : Calls P f (args ++ caps) w fun e w' => ∃ v, e = .returned v ∧ wpList P ops Q rest (a.put N v) w') : wpList P ops Q (oi :: rest) a w := by
  obtain ⟨fn, hf, hname, hb⟩ := hf.ex
  refine wpList_plain hg fun K hK => ?_
  have he := enters_ hf hname hb (args ++ caps) w
  have hrun : (execOp a.eval oi).run P w = .ok (.enter f (args ++ caps)) w := by
    unfold execOp
    simp [hop, resolve, Deferred.ofValue, invoke, Act.eval, hargs, hv]
    exact he
  unfold Oper.wp
  rw [hrun, Oper.upon_enter]
  refine h.mono fun e w'' hh => ?_
  obtain ⟨v, rfl, hk⟩ := hh
  subst hd
  exact hK _ _ hk
def idxP {α : Type} (g : α → Bool) (l : List α) : Int := match l.findIdx? g with | some i => i | none => -1
theorem idxP_hit {α : Type} {g : α → Bool} {l : List α} {i : Nat} (h : i < l.length) (hb : ∀ j (hj : j < i), g (l[j]'(by omega)) = false) (hx : g l[i] = true) : idxP g l = i := by
  have : l.findIdx? g = some i := by
    rw [List.findIdx?_eq_some_iff_getElem]
    exact ⟨h, hx, fun j hj => by simp [hb j hj]⟩
  unfold idxP; rw [this]
theorem idxP_none {α : Type} {g : α → Bool} {l : List α} (hb : ∀ j (hj : j < l.length), g l[j] = false) : idxP g l = -1 := by
  have : l.findIdx? g = none := by
    rw [List.findIdx?_eq_none_iff]
    intro x hx
    obtain ⟨j, hj, rfl⟩ := List.getElem_of_mem hx
    exact hb j hj
  unfold idxP; rw [this]
theorem idxP_any {α : Type} (g : α → Bool) (l : List α) : decide (0 ≤ idxP g l) = l.any g := by
  unfold idxP
  cases h : l.findIdx? g with
  | some i =>
    obtain ⟨hi, hx, _⟩ := List.findIdx?_eq_some_iff_getElem.1 h
    rw [decide_eq_true (by simp), Eq.comm, List.any_eq_true]
    exact ⟨l[i], List.getElem_mem _, hx⟩
  | none =>
    rw [decide_eq_false (by simp), Eq.comm, List.any_eq_false]
    intro x hx
    simpa using List.findIdx?_eq_none_iff.1 h x hx
theorem mem_of_getElem {α : Type} {l : List α} {i : Nat} {h : i < l.length} {x : α} (e : l[i] = x) : x ∈ l := e ▸ List.getElem_mem _
theorem below2 {w W W' : World} (h : Below w.heap.size w W) (h2 : Below W.heap.size W W') : Below w.heap.size w W' := below_then h h.size h2
theorem rd_get (l : List Int) (i : Nat) (h : i < l.length) : rd l (i : Int) = l[i] := by simp [rd, h]
theorem rdOf_get {α : Type} (d : α) (l : List α) (i : Nat) (h : i < l.length) : rdOf d l (i : Int) = l[i] := by simp [rdOf, h]
theorem box_cell {w W : World} {v : Value} {t : TypeId} (hb : Below (w.alloc (.cells #[v] t)).heap.size (w.alloc (.cells #[v] t)) W) : W.cell? ⟨w.heap.size, 0, none⟩ = some v :=
  pw_cell_below hb ((blk_cell (heap_alloc_new w (.cells #[v] t)) 0).trans rfl)
theorem below_a {w W : World} {o : Obj} (hb : Below (w.alloc o).heap.size (w.alloc o) W) : Below w.heap.size w W := below2 (below_alloc (Below.refl _ _) o) hb
def runesBlk (w : World) (s : ByteArray) (e : TypeId) : Obj := .cells (((runesI s).map fun x => Value.int .i32 x).toArray ++ Array.replicate (grownCap w (runesI s).length 0 e - (runesI s).length) (.int .i32 0)) e
def runesCap (w : World) (s : ByteArray) (e : TypeId) : Nat := grownCap w (runesI s).length 0 e
theorem run_runesI {P : Program} (w : World) (src dst e : TypeId) (s : ByteArray) (hs : P.underlying src = some .string) (hd : P.underlying dst = some (.slice e)) (he : P.underlying e = some (.int .i32))
    (h46 : s.size ≤ 70368744177664) :
    (convert src dst (.string s)).run P w = .ok (.slice (some ⟨w.heap.size, 0, none⟩) (runesI s).length (runesCap w s e)) (w.drew.alloc (runesBlk w s e)) := by
  have hl : (Conv.runesFrom s s.size 0 #[]).size = (runesI s).length := by rw [runes_conv, List.size_toArray, List.length_map]
  rw [run_runes_of_string w src dst e s hs hd he (by rw [hl]; have := runesI_len s; omega)]
  unfold runesBlk runesCap
  rw [hl, runes_conv]
theorem runes_C {w w0 W : World} {s : ByteArray} {e : TypeId} (hs : s.size ≤ 70368744177664) (hb : Below (w.alloc (runesBlk w0 s e)).heap.size (w.alloc (runesBlk w0 s e)) W) :
    Kd.C (Kd.int .i32) W (some ⟨w.heap.size, 0, none⟩) (runesI s).length (runesI s) := by
  refine Kd.C_below (w := w.alloc (runesBlk w0 s e)) (Kd.C_of_reads (d := (0 : Int)) (h1 := fun _ => rfl) ⟨rfl, by have := runesI_len s; omega, fun _ => ⟨_, rfl, fun j hj => ?_⟩⟩) hb
  rw [add_plain]
  refine (blk_cell (heap_alloc_new w _) j).trans ?_
  rw [Array.getElem?_append_left (by simpa using hj)]
  simp [List.getElem?_eq_getElem hj]
theorem R_iterAt {α : Type} {d : Kd α} {e base : Nat} {ok : Nat → Prop} {W : World} {v : Value} {xs : List α} {k : Nat} {s : ByteArray} {pos : Nat} (h : d.R e W base ok v xs) (hk : W.heap[k]? = some (.stringIter s pos)) (pos' : Nat) : d.R e (W.iterAt k s pos') base ok v xs :=
  Kd.R_mono (Kd.R_step (Kd.R_bound h) (fun j hj _ => Lib.iterAt_other W k j s pos' (by
    rintro rfl
    obtain ⟨_, _, _, q, _, cells, hc⟩ := hj
    rw [hk] at hc
    cases hc))) (fun _ hj => hj.1)
theorem iter_grown {W W' : World} {k : Nat} {s : ByteArray} {pos : Nat} {base : Nat} {e : TypeId} {size n : Nat} {v : Value} {xs : List Value} (hk : W.heap[k]? = some (.stringIter s pos)) (ho : W.ownsRow base e size v n xs) (hg : W.grownBy W' v.ownBlock) : W'.heap[k]? = some (.stringIter s pos) := by
  rw [hg.block k (Array.getElem?_eq_some_iff.1 hk).1 ?_]
  · exact hk
  · intro e1
    obtain ⟨cells, hc⟩ := own_typed ho k e1.symm
    rw [hk] at hc
    cases hc
theorem goesR {P : Program} {ops : Array Oper} {Q : Exit → Act → World → Prop} {oi : Oper} {N : Option Tmp} {a : Act} {w : World} {K : Act → World → Prop} {t : Tmp} {xs : Array Operand} {ts : Array TypeId} {f : FuncId} {caps : Array Value}
    (hop : oi.op = .call { callee := .value (.tmp t), args := xs, argTypes := ts }) (hv : a.tmps.getD t undef = .func (.func f) #[] caps) (hf : IsFn P f) (args : Array Value) (hw : Region.wanted oi (yielded ops a.tmps) = true) (hN : oi.dst = N) (hargs : xs.map a.eval = args)
    (h : Calls P f (args ++ caps) w fun e w' => ∃ v, e = .returned v ∧ K (a.put N v) w') : if Region.wanted oi (yielded ops a.tmps) = true then Oper.wp P oi a w K Q else K (a.put N undef) w := by
  obtain ⟨fn, hf, hname, hb⟩ := hf.ex
  refine call_ f (args ++ caps) hw hN ?_ h
  have he := enters_ hf hname hb (args ++ caps) w
  unfold execOp
  simp [hop, resolve, Deferred.ofValue, invoke, Act.eval, hargs, hv]
  exact he
theorem cut_drop {P : Program} {α : Type} (d : Kd α) (t e : TypeId) (kl : IntKind) {i : TypeInfo} (ht : P.underlying t = some (.slice e)) (hi : P.info? e = some i) (hsz : i.size = d.sz) (A : Option Addr) (c : Nat) (l : List α) (m : Nat) (z : Int) (hz : z = m) (hm : m ≤ l.length) (hc : l.length ≤ c) :
    ∃ (A2 : Option Addr) (l2 : List α) (c2 : Nat), l2 = l.drop m ∧ (∀ W : World, (Instr.slice t (.slice A l.length c) (some (.int kl z)) none none).run P W = .ok (.slice A2 l2.length c2) W) ∧
      (∀ W : World, d.C W A l.length l → d.C W A2 l2.length l2) ∧ l2.length ≤ c2 := by
  subst hz
  refine ⟨_, _, _, rfl, fun W => ?_, fun W h => Kd.C_drop h hm hc, (by rw [List.length_drop]; omega : (l.drop m).length ≤ c - m)⟩
  have := cut_from t e kl ht hi d.sz hsz A l.length c (m : Int) (by omega) (by omega) W
  rw [Int.toNat_natCast] at this
  rw [this, List.length_drop]
theorem box_cells {w W : World} {cs : Array Value} {v : Value} {t : TypeId} (j : Nat) (hj : cs[j]? = some v) (hb : Below (w.alloc (.cells cs t)).heap.size (w.alloc (.cells cs t)) W) : W.cell? ⟨w.heap.size, j, none⟩ = some v :=
  pw_cell_below hb ((blk_cell (heap_alloc_new w (.cells cs t)) j).trans hj)
def textOf (l : List Int) : ByteArray := l.foldl (fun out c => out ++ Utf8.encode (wrap32 c)) ⟨#[]⟩
theorem encode_size (c : Int) : 1 ≤ (Utf8.encode c).size ∧ (Utf8.encode c).size ≤ 4 := by
  unfold Utf8.encode
  simp only []
  generalize (if Utf8.valid c = true then c.toNat else Utf8.runeError) = n
  repeat' split
  all_goals simp [ByteArray.size]
theorem textOf_snoc (l : List Int) (c : Int) : textOf (l ++ [c]) = textOf l ++ Utf8.encode (wrap32 c) := by simp [textOf]
theorem textOf_sizeA : ∀ (l : List Int) (acc : ByteArray), (l.foldl (fun out c => out ++ Utf8.encode (wrap32 c)) acc).size ≤ acc.size + 4 * l.length
  | [], acc => by simp
  | c :: l, acc => by
    have h := textOf_sizeA l (acc ++ Utf8.encode (wrap32 c))
    have h2 := encode_size (wrap32 c)
    rw [ByteArray.size_append] at h
    simp only [List.foldl_cons, List.length_cons]
    omega
theorem textOf_size (l : List Int) : (textOf l).size ≤ 4 * l.length := by
  have := textOf_sizeA l ⟨#[]⟩
  unfold textOf
  have h0 : (⟨#[]⟩ : ByteArray).size = 0 := rfl
  omega
theorem less_asymm : ∀ (a b : List UInt8), Op.bytesLess a b = true → Op.bytesLess b a = false ∧ (a == b) = false
  | [], [], h => by simp [Op.bytesLess] at h
  | [], _ :: _, _ => by simp [Op.bytesLess]
  | _ :: _, [], h => by simp [Op.bytesLess] at h
  | x :: a, y :: b, h => by
    simp only [Op.bytesLess, Bool.or_eq_true, decide_eq_true_eq, Bool.and_eq_true, beq_iff_eq] at h
    rcases h with h | ⟨rfl, h⟩
    · have h1 : ¬ y < x := UInt8.not_lt.2 (UInt8.le_of_lt h)
      have h2 : ¬ y = x := fun e => UInt8.lt_irrefl x (e ▸ h)
      have h3 : ¬ x = y := fun e => h2 e.symm
      simp [Op.bytesLess, h1, h2, h3]
    · obtain ⟨h1, h2⟩ := less_asymm a b h
      have h2' : ¬ a = b := by simpa using h2
      simp [Op.bytesLess, h1, h2', UInt8.lt_irrefl]
theorem less_total : ∀ (a b : List UInt8), Op.bytesLess a b = false → Op.bytesLess b a = false → (a == b) = true
  | [], [], _, _ => rfl
  | [], _ :: _, h, _ => by simp [Op.bytesLess] at h
  | _ :: _, [], _, h => by simp [Op.bytesLess] at h
  | x :: a, y :: b, h, g => by
    simp only [Op.bytesLess, Bool.or_eq_false_iff, decide_eq_false_iff_not, Bool.and_eq_false_iff, beq_eq_false_iff_ne] at h g
    have e : x = y := UInt8.le_antisymm (UInt8.not_lt.1 g.1) (UInt8.not_lt.1 h.1)
    subst e
    have h2 := h.2.resolve_left (fun k => k rfl)
    have g2 := g.2.resolve_left (fun k => k rfl)
    have := less_total a b h2 g2
    simpa using this
@[go_sem] theorem binOp_string_leq_less (t : TypeId) (a b : ByteArray) : binOp .leq t (.string a) (.string b) = pure (.bool !(Op.bytesLess b.toList a.toList)) := by
  have : (Op.bytesLess a.toList b.toList || a.toList == b.toList) = !(Op.bytesLess b.toList a.toList) := by
    cases h1 : Op.bytesLess a.toList b.toList with
    | true => rw [(less_asymm _ _ h1).1]; rfl
    | false =>
      cases h2 : Op.bytesLess b.toList a.toList with
      | true =>
        have := (less_asymm _ _ h2).2
        rw [beq_eq_false_iff_ne] at this
        have h3 : (a.toList == b.toList) = false := beq_eq_false_iff_ne.2 fun e => this e.symm
        rw [h3]; rfl
      | false => rw [less_total _ _ h1 h2]; rfl
  rw [← this]
  simp [binOp, Op.stringOp]
theorem nemp (l : List UInt8) : (!l.isEmpty) = (l != []) := by cases l <;> rfl
theorem emp (l : List UInt8) : l.isEmpty = (l == []) := by cases l <;> rfl
structure But (B b : Nat) (w w' : World) : Prop where
  os : w'.os = w.os
  tape : w'.tape = w.tape
  output : w'.output = w.output
  size : w.heap.size ≤ w'.heap.size
  block : ∀ k, k < B → k ≠ b → w'.heap[k]? = w.heap[k]?
end Go.Proofs.YtaekklpphlcngaaGreatDoorX
