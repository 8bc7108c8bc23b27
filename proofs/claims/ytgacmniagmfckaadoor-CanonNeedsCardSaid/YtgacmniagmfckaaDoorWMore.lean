-- PRINTED BY print.sh 35421559b90ae4d0a3588c463048766b98c2df88dd9212a6774a882060cdf62d: not written by this session
-- PRINTED WORDS (module Derived/Print/More.lean): go-gate-2's additions: an AI agent of Go's test side, Tue Nov 17 2026; no person has read it. Lean checks it.
import Derived.Test.YtgacmniagmfckaaDoorWWords
import Derived.Test.YtgacmniagmfckaaDoorWLast
import Derived.Test.YtgacmniagmfckaaDoorWQPut
import Derived.Test.YtgacmniagmfckaaDoorWApart
import Derived.Test.YtgacmniagmfckaaDoorWZeros
import Derived.Test.YtgacmniagmfckaaDoorWFoot
import Derived.Test.YtgacmniagmfckaaDoorWKept
import Derived.Test.YtgacmniagmfckaaDoorWNEv
namespace Go.Proofs.YtgacmniagmfckaaDoorW.PrintMore
open Go.RowKit Go.Proofs.YtgacmniagmfckaaDoorW.PrintWords
namespace Kd
open Go.Proofs.YtgacmniagmfckaaDoorW.PrintWords.Kd
end Kd
namespace Kd
open Go.Proofs.YtgacmniagmfckaaDoorW.PrintWords.Kd
end Kd
end Go.Proofs.YtgacmniagmfckaaDoorW.PrintMore
namespace Go.Proofs.YtgacmniagmfckaaDoorW.PrintWords
open Go.RowKit
section
variable {P : Program} {ops : Array Oper} {rest : List Oper} {o : Oper} {a : Act} {Q : Exit → Act → World → Prop} {W : World}
theorem gate_callee {f : FuncId} {as : Array Operand} {ts : Array TypeId} (_ho : o.op = .call { callee := .value (.func f), args := as, argTypes := ts }) (h : wpList P ops Q (o :: rest) a W) : wpList P ops Q (o :: rest) a W := h
theorem gate_builtin {b : Builtin} {xs : Array Operand} {ts : Array TypeId} (_ho : o.op = .call { callee := .builtin b, args := xs, argTypes := ts }) (h : wpList P ops Q (o :: rest) a W) : wpList P ops Q (o :: rest) a W := h
end
namespace Kd
end Kd
end Go.Proofs.YtgacmniagmfckaaDoorW.PrintWords
namespace Go.Proofs.YtgacmniagmfckaaDoorW.PrintWords
open Go.RowKit
namespace Kd
def V {α : Type} (d : Kd α) (_e : Nat) (W : World) (_base : Nat) (ok : Nat → Prop) (v : Value) (xs : List α) : Prop := ∃ A c, v = .slice A xs.length c ∧ xs.length ≤ c ∧ F d W ok A xs.length xs
section
variable {α β : Type} {d : Kd α} {e base base' n m c g N' lo hi : Nat} {ok ok' S : Nat → Prop} {w W w1 : World} {A : Option Addr} {ad : Addr} {u v v1 : Value} {xs : List α}
theorem V_nil (d : Kd α) (e : Nat) (W : World) (base : Nat) (ok : Nat → Prop) : V d e W base ok (.slice none 0 0) [] := ⟨none, 0, rfl, Nat.le_refl _, F_nil d W ok⟩
end
end Kd
end Go.Proofs.YtgacmniagmfckaaDoorW.PrintWords
