/- CanonTells: whatever the input, the law's function returns true, and what came in reads as it did (where what is read is of bulk at most 1048576). The row and the tied card, out of the walk and the plain statement. -/
import Derived.Test.YtgacmniagmfckaaDoorRows
import Derived.Test.YtgacmniagmfckaaDoorTie
import Derived.Test.YtgacmniagmfckaaDoorCards
import Derived.Test.YtgacmniagmfckaaDoorQ13
import Derived.Test.YtgacmniagmfckaaDoorPCanonTells
import Derived.Lib.LaidIn
import Derived.Lib.LaidU8T
import Derived.Deep.DeepHandedRow
import Derived.Deep.DeepWitnessRowRef
import Derived.ProofKit
import Derived.SizedLaws
import Derived.WalkKit
import Derived.OpenShut
import Derived.ShutString
import Derived.ChangeOld
import Derived.Below
import Derived.SevenTiedAt
import Derived.Test.YtgacmniagmfckaaDoorShelf
import Derived.Test.YtgacmniagmfckaaDoorRead
namespace Go.Proofs.YtgacmniagmfckaaDoor
open Go Go.Shelf Go.ChangeShapes Go.WideShapes Go.ChangeAt Go.RowKit Go.Lib
open Go.ChangeMaps (open_string shut_string)
open Go.Proofs.YtgacmniagmfckaaDoor.Q (Tabs)
open Go.Proofs.YtgacmniagmfckaaDoorX Go.Proofs.YtgacmniagmfckaaDoorW.PrintWords
set_option linter.unusedVariables false
namespace LCanonTells
theorem laidOut : laidOutB Tryd.prog = true := by kernel_rfl
def bulk (H : Type) : Bulk H where
  one := Rows.uptoBulk
  all := Rows.uptoBulkAll
  str := fun _ => rfl
  int := fun _ _ => rfl
  bool := fun _ => rfl
  nil := rfl
  slice := fun _ _ => by rw [Rows.uptoBulk]
  agg := fun _ => by rw [Rows.uptoBulk]
  empty := rfl
  cons := fun _ _ => by rw [Rows.uptoBulkAll]
theorem own : ownKnob Tryd.prog.godebug = none := by kernel_rfl
noncomputable def laidWorld (os : Os) : World :=
  let w0 := World.holding Tryd.prog os ⟨#[], #[], []⟩
  let put (h : Array Obj) (g : Nat) (cs : Array Value) : Array Obj := h.modify g fun
    | .cells _ t frozen => .cells cs t frozen
    | o => o
  let h1 := put w0.heap 1 ((List.range 16).flatMap fun i => [Value.int .u8 (Lib.accLo i), Value.int .u8 (Lib.accHi i)]).toArray
  let h2 := put h1 0 (Lib.firstTab.map fun z => Value.int .u8 z).toArray
  { w0 with heap := h2 }
set_option maxRecDepth 100000 in
theorem laid_met (os : Os) (args : Array Value) : laidMet Tryd.prog Rows.canonTellsUptoRow.laid ((laidWorld os).forCall (fun _ _ => 0) ⟨#[], args, []⟩).memory :=
  (LaidIn.of_run (l := [("unicode/utf8.acceptRanges", Lib.acceptData), ("unicode/utf8.first", Lib.firstData)]) [1, 0] 8 (by kernel_rfl) (by kernel_rfl) (by kernel_rfl) (by kernel_rfl)).met
set_option maxRecDepth 100000 in
theorem witness_row (os : Os) {H : Type} (enc : TypeId × Value → H) :
    (Rows.OpenSpec.upto Rows.canonTellsSpec).preRow enc Tryd.prog Tryd.f3 Rows.canonTellsUptoRow.domain false Rows.canonTellsUptoRow.laid ((laidWorld os).forCall (fun _ _ => 0) ⟨#[], #[.slice none 0 0], []⟩).memory #[.slice none 0 0] := by
  have hw : (DataW.whole enc Tryd.prog ((laidWorld os).forCall (fun _ _ => 0) ⟨#[], #[.slice none 0 0], []⟩).memory Tryd.f3.params.toList (Rows.OpenSpec.upto Rows.canonTellsSpec).vars false #[(.slice none 0 0 : Value)].toList 8).map (fun x => (x.1, x.2.1)) =
      some ([.nil], []) := by kernel_rfl
  obtain ⟨⟨x1, x2, x3⟩, hx, hx1⟩ := Option.map_eq_some_iff.1 hw
  simp only [Prod.mk.injEq] at hx1
  obtain ⟨rfl, rfl⟩ := hx1
  exact OpenSpec.preRow_of_cond 8 hx (by kernel_rfl) (fun k hk => by cases hk; rfl) (by kernel_rfl) (laid_met os _)
set_option maxRecDepth 100000 in
set_option maxHeartbeats 2000000 in
theorem lifted (os : Os) (started : os.Started) (H : Type) (enc : TypeId × Value → H) (F : Stop.Interp) :
    ReturnsInHanded {} Tryd.checked os 3 .any ((Rows.OpenSpec.upto Rows.canonTellsSpec).preRow enc Tryd.prog Tryd.f3 Rows.canonTellsUptoRow.domain false Rows.canonTellsUptoRow.laid) (((Rows.OpenSpec.upto Rows.canonTellsSpec).at F).post enc Tryd.prog Tryd.f3 false true false false) := by
  refine returnsInHanded_of_row (C := Tryd.checked) (s := (Rows.OpenSpec.upto Rows.canonTellsSpec)) own started (by kernel_rfl) Tryd.func3
    (witness_row_atRef (enc := enc) (C := Tryd.checked) false (laidWorld os) #[.slice none 0 0] rfl (by kernel_rfl) (by kernel_rfl) (by kernel_rfl) (witness_row os enc)) ?_
  intro W base args ds gs before hval0 hW _ hcond hsz0 hL hSh _
  have hsz : (DataW.weightsEach Tryd.prog (Tryd.f3.params.toList ++ (Rows.OpenSpec.upto Rows.canonTellsSpec).bare.plain.varTypes Tryd.prog) (ds ++ gs)).all (· ≤ reachBytes) = true := hsz0
  have hval : ∀ (j : Nat) t v, Tryd.f3.params[j]? = some t → args[j]? = some v → Value.okWide Tryd.prog W .any base t v := hval0
  have hW' := hW
  obtain ⟨p, q, hA0, hV0, rfl, _, _⟩ := hW
  have hA : DataW.TrodAll enc Tryd.prog W 0 (fun _ => true) true Tryd.f3.params.toList args.toList ds p := hA0
  rw [Tryd.params3] at hA hval hsz
  obtain ⟨v0, vs0, d0, ds0, p0, q0, hargs, rfl, rfl, h0, r0⟩ := trodAll_cons hA
  obtain ⟨rfl, rfl, rfl⟩ := trodAll_nil r0
  obtain rfl : args = #[v0] := by cases args; simp_all
  obtain ⟨rfl, rfl⟩ := trodVars_none hV0
  have hb : Rows.uptoSmall H ([d0] ++ []) = true := hcond _ rfl
  have hb := of_decide_eq_true hb
  simp only [List.append_nil, Rows.uptoBulkAll] at hb
  have k0 := h0
  have lt0 : ∀ x ∈ p0, x.block < W.heap.size := by obtain ⟨m, hm⟩ := k0; exact DataW.trod_lt m _ _ _ hm
  obtain ⟨b0, len0, cap0, rfl⟩ := okWide_slice Tryd.underlying22 (hval 0 22 v0 rfl rfl)
  obtain ⟨n0, g0⟩ := h0
  obtain ⟨x0, rl0, A0, c0, e0, le0, hr0⟩ := (Rd.slice (P := Tryd.prog) (t := 22) Tryd.underlying22 (Rd.struct (P := Tryd.prog) (t := 32) Tryd.underlying32 (fun x : Go.Proofs.YtgacmniagmfckaaDoor.Q.S32 => (x.f0, x.f1, x.f2, x.f3, x.f4, x.f5)) (fun p => ⟨p.1, p.2.1, p.2.2.1, p.2.2.2.1, p.2.2.2.2.1, p.2.2.2.2.2⟩) (fun _ => rfl) (RdF.cons (Rd.int (P := Tryd.prog) (t := 3) .i64 Tryd.underlying3) (RdF.cons (Rd.int (P := Tryd.prog) (t := 3) .i64 Tryd.underlying3) (RdF.cons (Rd.string (P := Tryd.prog) (t := 9) Tryd.underlying9) (RdF.cons (Rd.string (P := Tryd.prog) (t := 9) Tryd.underlying9) (RdF.cons (Rd.slice (P := Tryd.prog) (t := 30) Tryd.underlying30 (Rd.struct (P := Tryd.prog) (t := 29) Tryd.underlying29 (fun x : Go.Proofs.YtgacmniagmfckaaDoor.Q.S29 => (x.f0, x.f1)) (fun p => ⟨p.1, p.2⟩) (fun _ => rfl) (RdF.cons (Rd.string (P := Tryd.prog) (t := 9) Tryd.underlying9) (RdF.one (Rd.string (P := Tryd.prog) (t := 9) Tryd.underlying9) rfl (by kernel_rfl)) rfl (by kernel_rfl) (by decide)) (by kernel_rfl)) (by kernel_rfl)) (RdF.one (Rd.string (P := Tryd.prog) (t := 9) Tryd.underlying9) rfl (by kernel_rfl)) rfl (by kernel_rfl) (by decide)) rfl (by kernel_rfl) (by decide)) rfl (by kernel_rfl) (by decide)) rfl (by kernel_rfl) (by decide)) rfl (by kernel_rfl) (by decide)) (by kernel_rfl)) (by kernel_rfl)).opens g0
  have ok0 := (Rd.slice (P := Tryd.prog) (t := 22) Tryd.underlying22 (Rd.struct (P := Tryd.prog) (t := 32) Tryd.underlying32 (fun x : Go.Proofs.YtgacmniagmfckaaDoor.Q.S32 => (x.f0, x.f1, x.f2, x.f3, x.f4, x.f5)) (fun p => ⟨p.1, p.2.1, p.2.2.1, p.2.2.2.1, p.2.2.2.2.1, p.2.2.2.2.2⟩) (fun _ => rfl) (RdF.cons (Rd.int (P := Tryd.prog) (t := 3) .i64 Tryd.underlying3) (RdF.cons (Rd.int (P := Tryd.prog) (t := 3) .i64 Tryd.underlying3) (RdF.cons (Rd.string (P := Tryd.prog) (t := 9) Tryd.underlying9) (RdF.cons (Rd.string (P := Tryd.prog) (t := 9) Tryd.underlying9) (RdF.cons (Rd.slice (P := Tryd.prog) (t := 30) Tryd.underlying30 (Rd.struct (P := Tryd.prog) (t := 29) Tryd.underlying29 (fun x : Go.Proofs.YtgacmniagmfckaaDoor.Q.S29 => (x.f0, x.f1)) (fun p => ⟨p.1, p.2⟩) (fun _ => rfl) (RdF.cons (Rd.string (P := Tryd.prog) (t := 9) Tryd.underlying9) (RdF.one (Rd.string (P := Tryd.prog) (t := 9) Tryd.underlying9) rfl (by kernel_rfl)) rfl (by kernel_rfl) (by decide)) (by kernel_rfl)) (by kernel_rfl)) (RdF.one (Rd.string (P := Tryd.prog) (t := 9) Tryd.underlying9) rfl (by kernel_rfl)) rfl (by kernel_rfl) (by decide)) rfl (by kernel_rfl) (by decide)) rfl (by kernel_rfl) (by decide)) rfl (by kernel_rfl) (by decide)) rfl (by kernel_rfl) (by decide)) (by kernel_rfl)) (by kernel_rfl)).sized rl0 (fun n hn => of_decide_eq_true (List.all_eq_true.1 hsz n (DataW.weights_mem_each (j := 0) (t := 22) rfl rfl n hn)))
  simp only [Value.cells, List.cons.injEq, Value.slice.injEq, and_true] at e0
  obtain ⟨rfl, rfl, rfl⟩ := e0
  clear hA0 hval0 hsz0 hsz hV0
  have htab : Tabs W := ⟨utf8Tabs_of_readsT (U8Types.of196 Tryd.lays196) ⟨by kernel_rfl, by kernel_rfl, by kernel_rfl, by kernel_rfl, by kernel_rfl, by kernel_rfl, by kernel_rfl⟩ (Lib.laidMet.reads hL (.tail _ (.head _))) (Lib.laidMet.reads hL (.head _)), cell_of_shapedOpen_int (zero := #[.int .i64 0]) (t := 3) hSh (of_decide_eq_true (by kernel_rfl)) (by kernel_rfl) rfl (by kernel_rfl) (by kernel_rfl) Tryd.underlying3, trivial⟩
  have mu0 := Nat.le_trans ((Rd.slice (P := Tryd.prog) (t := 22) Tryd.underlying22 (Rd.struct (P := Tryd.prog) (t := 32) Tryd.underlying32 (fun x : Go.Proofs.YtgacmniagmfckaaDoor.Q.S32 => (x.f0, x.f1, x.f2, x.f3, x.f4, x.f5)) (fun p => ⟨p.1, p.2.1, p.2.2.1, p.2.2.2.1, p.2.2.2.2.1, p.2.2.2.2.2⟩) (fun _ => rfl) (RdF.cons (Rd.int (P := Tryd.prog) (t := 3) .i64 Tryd.underlying3) (RdF.cons (Rd.int (P := Tryd.prog) (t := 3) .i64 Tryd.underlying3) (RdF.cons (Rd.string (P := Tryd.prog) (t := 9) Tryd.underlying9) (RdF.cons (Rd.string (P := Tryd.prog) (t := 9) Tryd.underlying9) (RdF.cons (Rd.slice (P := Tryd.prog) (t := 30) Tryd.underlying30 (Rd.struct (P := Tryd.prog) (t := 29) Tryd.underlying29 (fun x : Go.Proofs.YtgacmniagmfckaaDoor.Q.S29 => (x.f0, x.f1)) (fun p => ⟨p.1, p.2⟩) (fun _ => rfl) (RdF.cons (Rd.string (P := Tryd.prog) (t := 9) Tryd.underlying9) (RdF.one (Rd.string (P := Tryd.prog) (t := 9) Tryd.underlying9) rfl (by kernel_rfl)) rfl (by kernel_rfl) (by decide)) (by kernel_rfl)) (by kernel_rfl)) (RdF.one (Rd.string (P := Tryd.prog) (t := 9) Tryd.underlying9) rfl (by kernel_rfl)) rfl (by kernel_rfl) (by decide)) rfl (by kernel_rfl) (by decide)) rfl (by kernel_rfl) (by decide)) rfl (by kernel_rfl) (by decide)) rfl (by kernel_rfl) (by decide)) (by kernel_rfl)) (by kernel_rfl)).bulky (bulk H) rl0) (show Rows.uptoBulk d0 ≤ 1048576 by omega)
  obtain ⟨k, hk⟩ := P.canonTells x0 ok0 mu0
  refine (Go.Proofs.YtgacmniagmfckaaDoor.Q.cardexlaw10_CanonTells.calls k _ _ x0 true W hr0 le0 hk htab rfl).mono ?_
  rintro e W' ⟨rfl, bel⟩
  refine ⟨_, rfl, _, _, _, [], _, [], hW', trodAll_mk1 (shut_bool Tryd.underlying4 _), (trodAll_cons_mk (Below.trod laidOut (by kernel_rfl) (of_decide_eq_true (by kernel_rfl)) k0 bel lt0) trodAll_mk0), rfl, bel.frame _, fun h => by cases h⟩
theorem row_holds : Rows.CanonTellsUptoSaid :=
  OpenClaim.holds_of_cond 3 Tryd.f3 rfl rfl rfl rfl rfl rfl rfl ⟨rfl, rfl, rfl, rfl, rfl⟩ rfl rfl rfl rfl rfl (by kernel_rfl) Tryd.func3 (by kernel_rfl)
    (of_decide_eq_true (by kernel_rfl)) (by unfold Func.isWrapper; first | (rw [if_pos (by decide +kernel)]; kernel_rfl) | (rw [if_neg (by decide +kernel)]; exact ⟨rfl, rfl⟩))
    (fun os started H enc _ F0 => by rw [OpenClaim.pre_eq_preRow]; exact lifted os started H enc F0)
end LCanonTells
theorem canonTells_card : Rows.CanonTellsUptoCardSaid :=
  Claim7.holds_tied_plain_at .later [] [.data, .pinned] true (true, "351ef25a1f6c6fc1a68cdfacee32f162204a957b5c073ae1a2e0be819c4d7bda") false
    LCanonTells.row_holds (fun _ h => by cases h) (by kernel_rfl) (fun _ h => by cases h) canonTellsUpto_row_tie rfl ⟨rfl, rfl⟩ (by kernel_rfl) rfl
    (fun f fn hf hfn => by
      obtain rfl : f = 3 := Option.some.inj ((show Tryd.prog.funcNamed "cardex/cardexlaw10.CanonTells" = some 3 by kernel_rfl).symm.trans hf) |>.symm
      obtain rfl : fn = Tryd.f3 := (Option.some.inj (Tryd.func3.symm.trans hfn)).symm
      exact ⟨by kernel_rfl, fun j t ht => by
        rw [Tryd.params3] at ht
        have hall : ∀ u, u ∈ ([22] : List Nat) → Tryd.prog.wantsStandIn u = false := by
          intro u hu
          simp only [List.mem_cons, List.mem_nil_iff, or_false] at hu
          rcases hu with rfl
          kernel_rfl
        refine hall t ?_
        simp only [List.mem_cons, List.mem_nil_iff, or_false]
        rcases j with _ | j
        all_goals simp at ht
        all_goals (subst ht; simp)⟩)
    (by kernel_rfl)
#print axioms canonTells_card
end Go.Proofs.YtgacmniagmfckaaDoor
