-- Written by hookprint.py (wip/) of this session: the kit's print with hand-proved functions beside it. Not trusted: Lean checks it.
import Derived.Test.YtmhfjeekhkoikaaGreatDoorProg
import Derived.Below
import Derived.Deep.Draws
import Derived.Deep.AppendLies
import Derived.Maps.AppendAt
import Derived.OwnWalk
import Derived.Laws.BytesArg
import Derived.Laws.MakeOwn
import Derived.Laws.OwnMore
import Derived.Deep.OwnRows
import Derived.Tactics
import Derived.Lib.ConvBytes
import Derived.Laws.Slices
import Derived.WalkKit
import Derived.KernelRfl
import Derived.RowKit3
import Derived.Deep.LoopGhost
import Derived.Deep.QuietTactic
import Derived.BigQuiet
import Derived.WideLaws
import Derived.Deep.DeepCutAuto
import Derived.Deep.CutBlock
import Derived.Deep.RegionHeld3
import Derived.Laws.Rows
import Derived.Laws.Cover4
import Derived.Lib.AppendStr
import Derived.ArgAppend
import Derived.Laws.IdiomCopy
import Derived.OrdersHeld
import Derived.Laws.BitsLemmas
import Derived.RowKit
import Derived.Lib.LaidU8T
import Derived.Shelf.Unicode.DecodeSlow
import Derived.Test.YtmhfjeekhkoikaaGreatDoorShelf
import Derived.Test.YtmhfjeekhkoikaaGreatDoorExt
import Derived.Test.YtmhfjeekhkoikaaGreatDoorPl
import Derived.Test.YtmhfjeekhkoikaaGreatDoorUtf
import Derived.Test.YtmhfjeekhkoikaaGreatDoorWWords
import Derived.Test.YtmhfjeekhkoikaaGreatDoorWLast
import Derived.Test.YtmhfjeekhkoikaaGreatDoorWTab
import Derived.Test.YtmhfjeekhkoikaaGreatDoorWFour
import Derived.Test.YtmhfjeekhkoikaaGreatDoorWQPut
import Derived.Test.YtmhfjeekhkoikaaGreatDoorWApart
import Derived.Test.YtmhfjeekhkoikaaGreatDoorWArr
import Derived.Test.YtmhfjeekhkoikaaGreatDoorWZeros
import Derived.Test.YtmhfjeekhkoikaaGreatDoorWFoot
import Derived.Test.YtmhfjeekhkoikaaGreatDoorWKept
import Derived.Test.YtmhfjeekhkoikaaGreatDoorWShare
import Derived.Test.YtmhfjeekhkoikaaGreatDoorWN
import Derived.Test.YtmhfjeekhkoikaaGreatDoorWFootNe
import Derived.Test.YtmhfjeekhkoikaaGreatDoorWAt
import Derived.Test.YtmhfjeekhkoikaaGreatDoorWEqStruct
import Derived.Test.YtmhfjeekhkoikaaGreatDoorWRepsOne
import Derived.Test.YtmhfjeekhkoikaaGreatDoorWInv
import Derived.Test.YtmhfjeekhkoikaaGreatDoorWInvWords
import Derived.Test.YtmhfjeekhkoikaaGreatDoorWGuard
import Derived.Test.YtmhfjeekhkoikaaGreatDoorWNEv
import Derived.Test.YtmhfjeekhkoikaaGreatDoorWMore
namespace Go.Proofs.YtmhfjeekhkoikaaGreatDoor.Q
open Go.RowKit Go.Lib Go.Proofs.YtmhfjeekhkoikaaGreatDoorX Go.Proofs.YtmhfjeekhkoikaaGreatDoorW.PrintWords Go.Proofs.YtmhfjeekhkoikaaGreatDoorW.PrintLast Go.Proofs.YtmhfjeekhkoikaaGreatDoorW.PrintMore
set_option linter.unusedVariables false
set_option linter.unusedSimpArgs false
def Tabs (w : World) : Prop := Go.Lib.Utf8Tabs 1 2 w ∧ (∃ m, w.cell? ⟨0, 0, none⟩ = some (.int .i64 m))
theorem tabs_b {w W : World} (h : Tabs w) (hb : Below w.heap.size w W) : Tabs W := ⟨Go.Proofs.Utf8Tabs_below h.1 hb, h.2.imp fun _ hc => pw_cell_below hb hc⟩
def errW : Option Int → Value
  | none => .nilIface
  | some c => .iface 0 (.int .i64 c)
theorem errW_none : errW none = .nilIface := rfl
theorem errW_some (c : Int) : errW (some c) = .iface 0 (.int .i64 c) := rfl
theorem info3 : (Tryz.prog.info? 3).map (fun i => (i.zero, i.size, i.bytes)) = some (some (.int .i64 0), 1, 8) := by kernel_rfl
theorem info69 : (Tryz.prog.info? 69).map (fun i => (i.zero, i.size, i.bytes)) = some (some (.agg #[(.int .i64 0), (.int .i64 0)]), 2, 16) := by kernel_rfl
-- the values' own types
structure S69 where
  f0 : Int
  f1 : Int
def z69 : S69 := ⟨(0 : Int), (0 : Int)⟩
def k69 : Kd S69 := Kd.iso (Kd.pair (Kd.int .i64) (Kd.int .i64)) (fun x : S69 => (x.f0, x.f1))
theorem k69_open {w : World} {x : S69} {cs : List Value} (h : k69.K w x cs) : cs = [.int .i64 x.f0, .int .i64 x.f1] := by
  obtain ⟨_, _, rfl, rfl, rfl⟩ := h
  exact rfl
theorem k69_mkM (w : World) (base : Nat) (ok : Nat → Prop) (x : S69)  : k69.M w base ok x [.int .i64 x.f0, .int .i64 x.f1] := ⟨[.int .i64 x.f0], [.int .i64 x.f1], rfl, rfl, rfl⟩
def rd_T69 (xs : List S69) (i : Int) : S69 := xs.getD i.toNat z69
theorem at_T69 {w : World} {A : Option Addr} {n : Nat} {xs : List S69} (h : Kd.C k69 w A n xs) (i : Int) (h0 : 0 ≤ i) (h1 : i < n) : ∃ ad , A = some ad ∧ w.cell? (ad.add (i.toNat * 2)) = some (.int .i64 (rd_T69 xs i).f0) ∧ w.cell? ⟨(ad.add (i.toNat * 2)).block, (ad.add (i.toNat * 2)).off + 1, none⟩ = some (.int .i64 (rd_T69 xs i).f1) := by
  obtain ⟨ad, c, e, _, hK, hc0⟩ := Kd.C_get h z69 i h0 h1
  have hc : ∀ j u, c[j]? = some u → w.cell? (ad.add (i.toNat * 2 + j)) = some u := hc0
  obtain rfl := k69_open hK
  exact ⟨ad, e, hc 0 _ rfl, by rw [← add_field _ _ 1 (by omega)]; exact hc 1 _ rfl⟩
structure S81 where
  f0 : (List Int)
structure S34 where
  f0 : ByteArray
  f1 : Bool
end Go.Proofs.YtmhfjeekhkoikaaGreatDoor.Q
