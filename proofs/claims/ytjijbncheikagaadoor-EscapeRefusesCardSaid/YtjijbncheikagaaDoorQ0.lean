-- Written by hookprint.py (wip/) of this session: the kit's print with hand-proved functions beside it. Not trusted: Lean checks it.
import Derived.Test.YtjijbncheikagaaDoorProg
import Derived.Below
import Derived.Deep.Draws
import Derived.Deep.AppendLies
import Derived.Maps.AppendAt
import Derived.OwnWalk
import Derived.Laws.BytesArg
import Derived.Laws.MakeOwn
import Derived.Laws.OwnMore
import Derived.Deep.OwnRows
import Derived.Tactics
import Derived.Lib.ConvBytes
import Derived.Laws.Slices
import Derived.WalkKit
import Derived.KernelRfl
import Derived.RowKit3
import Derived.Deep.LoopGhost
import Derived.Deep.QuietTactic
import Derived.BigQuiet
import Derived.WideLaws
import Derived.Deep.DeepCutAuto
import Derived.Deep.CutBlock
import Derived.Deep.RegionHeld3
import Derived.Laws.Rows
import Derived.Laws.Cover4
import Derived.Lib.AppendStr
import Derived.ArgAppend
import Derived.Laws.IdiomCopy
import Derived.OrdersHeld
import Derived.Laws.BitsLemmas
import Derived.RowKit
import Derived.Lib.LaidU8T
import Derived.Shelf.Unicode.DecodeSlow
import Derived.Test.YtjijbncheikagaaDoorShelf
import Derived.Test.YtjijbncheikagaaDoorExt
import Derived.Test.YtjijbncheikagaaDoorPl
import Derived.Test.YtjijbncheikagaaDoorUtf
import Derived.Shelf.Strings.SlTrimAscii
import Derived.Test.YtjijbncheikagaaDoorWWords
import Derived.Test.YtjijbncheikagaaDoorWLast
import Derived.Test.YtjijbncheikagaaDoorWTab
import Derived.Test.YtjijbncheikagaaDoorWFour
import Derived.Test.YtjijbncheikagaaDoorWQPut
import Derived.Test.YtjijbncheikagaaDoorWApart
import Derived.Test.YtjijbncheikagaaDoorWArr
import Derived.Test.YtjijbncheikagaaDoorWZeros
import Derived.Test.YtjijbncheikagaaDoorWFoot
import Derived.Test.YtjijbncheikagaaDoorWKept
import Derived.Test.YtjijbncheikagaaDoorWShare
import Derived.Test.YtjijbncheikagaaDoorWN
import Derived.Test.YtjijbncheikagaaDoorWFootNe
import Derived.Test.YtjijbncheikagaaDoorWAt
import Derived.Test.YtjijbncheikagaaDoorWEqStruct
import Derived.Test.YtjijbncheikagaaDoorWRepsOne
import Derived.Test.YtjijbncheikagaaDoorWInv
import Derived.Test.YtjijbncheikagaaDoorWInvWords
import Derived.Test.YtjijbncheikagaaDoorWGuard
import Derived.Test.YtjijbncheikagaaDoorWNEv
import Derived.Test.YtjijbncheikagaaDoorWMore
namespace Go.Proofs.YtjijbncheikagaaDoor.Q
open Go.RowKit Go.Lib Go.Proofs.YtjijbncheikagaaDoorX Go.Proofs.YtjijbncheikagaaDoorW.PrintWords Go.Proofs.YtjijbncheikagaaDoorW.PrintLast Go.Proofs.YtjijbncheikagaaDoorW.PrintMore
attribute [local go_sem] max2_int min2_int max_two min_two max_three min_three max_four min_four   -- for this text's walks alone
set_option linter.unusedVariables false
set_option linter.unusedSimpArgs false


/-- What the library's tables and its variables hold, in a world: stable under whatever grows above them. -/
structure Tabs (w : World) : Prop where
  u8 : Go.Lib.Utf8Tabs 0 1 w
  ml : ∃ m, w.cell? ⟨2, 0, none⟩ = some (.int .i64 m)
  err : (∃ ev : Value, w.cell? ⟨3, 0, none⟩ = some ev ∧ (ev = .nilIface ∨ ∃ te pe, ev = .iface te pe)) ∧ (∃ ev : Value, w.cell? ⟨4, 0, none⟩ = some ev ∧ (ev = .nilIface ∨ ∃ te pe, ev = .iface te pe))
theorem tabs_b {w W : World} (h : Tabs w) (hb : Below w.heap.size w W) : Tabs W := ⟨Go.Proofs.Utf8Tabs_below h.1 hb, h.2.imp fun _ hc => pw_cell_below hb hc, ⟨h.3.1.imp fun _ hc => ⟨pw_cell_below hb hc.1, hc.2⟩, h.3.2.imp fun _ hc => ⟨pw_cell_below hb hc.1, hc.2⟩⟩⟩



def errW : Option Int → Value
  | none => .nilIface
  | some c => .iface 0 (.int .i64 c)
theorem errW_none : errW none = .nilIface := rfl
theorem errW_some (c : Int) : errW (some c) = .iface 0 (.int .i64 c) := rfl

theorem info5 : (Tryd.prog.info? 5).map (fun i => (i.zero, i.size, i.bytes)) = some (some (.int .u8 0), 1, 1) := by kernel_rfl
theorem info9 : (Tryd.prog.info? 9).map (fun i => (i.zero, i.size, i.bytes)) = some (some (.string ⟨#[]⟩), 1, 16) := by kernel_rfl
-- the values' own types
def rd_L1 (xs : List (List Int)) (i : Int) : (List Int) := xs.getD i.toNat ([] : List Int)
theorem at_L1 {w : World} {A : Option Addr} {n : Nat} {xs : List (List Int)} (h : Kd.C (Kd.slice 21 (Kd.int .i32)) w A n xs) (i : Int) (h0 : 0 ≤ i) (h1 : i < n) : ∃ ad A0 c0, A = some ad ∧ w.cell? (ad.add i.toNat) = some (.slice A0 (rd_L1 xs i).length c0) ∧ (rd_L1 xs i).length ≤ c0 ∧ (Kd.int .i32).C w A0 (rd_L1 xs i).length (rd_L1 xs i) := by
  obtain ⟨ad, c, e, _, hK, hc0⟩ := Kd.C_get h ([] : List Int) i h0 h1
  have hc : ∀ j u, c[j]? = some u → w.cell? (ad.add (i.toNat * 1 + j)) = some u := hc0
  obtain ⟨A0, c0, rfl, l0, g0⟩ := hK
  exact ⟨ad, A0, c0, e, by have hq := hc 0 _ rfl; rwa [Nat.mul_one, Nat.add_zero] at hq, l0, g0⟩

end Go.Proofs.YtjijbncheikagaaDoor.Q
