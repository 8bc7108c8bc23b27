/- ItemModes: whatever the input, the law's function returns true, and what came in reads as it did (where what is read is of bulk at most 1048576). The row and the tied card, out of the walk and the plain statement. -/
import Derived.Test.YtaekklpphlcngaaGreatDoorRows
import Derived.Test.YtaekklpphlcngaaGreatDoorTie
import Derived.Test.YtaekklpphlcngaaGreatDoorCards
import Derived.Test.YtaekklpphlcngaaGreatDoorQ17
import Derived.Test.YtaekklpphlcngaaGreatDoorPItemModes
import Derived.Lib.LaidIn
import Derived.Lib.LaidU8T
import Derived.Deep.DeepHandedRow
import Derived.Deep.DeepWitnessRowRef
import Derived.ProofKit
import Derived.SizedLaws
import Derived.WalkKit
import Derived.OpenShut
import Derived.ShutString
import Derived.ChangeOld
import Derived.Below
import Derived.SevenTiedAt
import Derived.Test.YtaekklpphlcngaaGreatDoorShelf
import Derived.Test.YtaekklpphlcngaaGreatDoorRead
namespace Go.Proofs.YtaekklpphlcngaaGreatDoor
open Go Go.Shelf Go.ChangeShapes Go.WideShapes Go.ChangeAt Go.RowKit Go.Lib
open Go.ChangeMaps (open_string shut_string)
open Go.Proofs.YtaekklpphlcngaaGreatDoor.Q (Tabs)
open Go.Proofs.YtaekklpphlcngaaGreatDoorX Go.Proofs.YtaekklpphlcngaaGreatDoorW.PrintWords
set_option linter.unusedVariables false
namespace LItemModes
theorem laidOut : laidOutB Tryz.prog = true := by kernel_rfl
def bulk (H : Type) : Bulk H where
  one := Rows.uptoBulk
  all := Rows.uptoBulkAll
  str := fun _ => rfl
  int := fun _ _ => rfl
  bool := fun _ => rfl
  nil := rfl
  slice := fun _ _ => by rw [Rows.uptoBulk]
  agg := fun _ => by rw [Rows.uptoBulk]
  empty := rfl
  cons := fun _ _ => by rw [Rows.uptoBulkAll]
theorem own : ownKnob Tryz.prog.godebug = none := by kernel_rfl
noncomputable def laidWorld (os : Os) : World :=
  let w0 := World.holding Tryz.prog os ⟨#[], #[], []⟩
  let put (h : Array Obj) (g : Nat) (cs : Array Value) : Array Obj := h.modify g fun
    | .cells _ t frozen => .cells cs t frozen
    | o => o
  let h1 := put w0.heap 1 ((List.range 16).flatMap fun i => [Value.int .u8 (Lib.accLo i), Value.int .u8 (Lib.accHi i)]).toArray
  let h2 := put h1 0 (Lib.firstTab.map fun z => Value.int .u8 z).toArray
  { w0 with heap := h2 }
set_option maxRecDepth 100000 in
theorem laid_met (os : Os) (args : Array Value) : laidMet Tryz.prog Rows.itemModesUptoRow.laid ((laidWorld os).forCall (fun _ _ => 0) ⟨#[], args, []⟩).memory :=
  (LaidIn.of_run (l := [("unicode/utf8.acceptRanges", Lib.acceptData), ("unicode/utf8.first", Lib.firstData)]) [1, 0] 8 (by kernel_rfl) (by kernel_rfl) (by kernel_rfl) (by kernel_rfl)).met
set_option maxRecDepth 100000 in
theorem witness_row (os : Os) {H : Type} (enc : TypeId × Value → H) :
    (Rows.OpenSpec.upto Rows.itemModesSpec).preRow enc Tryz.prog Tryz.f3 Rows.itemModesUptoRow.domain false Rows.itemModesUptoRow.laid ((laidWorld os).forCall (fun _ _ => 0) ⟨#[], #[.int .i64 0, .bool false, .bool false, .agg #[.string ByteArray.empty, .string ByteArray.empty, .slice none 0 0, .int .i64 0, .bool false, .bool false]], []⟩).memory #[.int .i64 0, .bool false, .bool false, .agg #[.string ByteArray.empty, .string ByteArray.empty, .slice none 0 0, .int .i64 0, .bool false, .bool false]] := by
  have hw : (DataW.whole enc Tryz.prog ((laidWorld os).forCall (fun _ _ => 0) ⟨#[], #[.int .i64 0, .bool false, .bool false, .agg #[.string ByteArray.empty, .string ByteArray.empty, .slice none 0 0, .int .i64 0, .bool false, .bool false]], []⟩).memory Tryz.f3.params.toList (Rows.OpenSpec.upto Rows.itemModesSpec).vars false #[(.int .i64 0 : Value), (.bool false : Value), (.bool false : Value), (.agg #[.string ByteArray.empty, .string ByteArray.empty, .slice none 0 0, .int .i64 0, .bool false, .bool false] : Value)].toList 8).map (fun x => (x.1, x.2.1)) =
      some ([.lit (.int .i64 0), .lit (.bool false), .lit (.bool false), .agg [.lit (.string []), .lit (.string []), .nil, .lit (.int .i64 0), .lit (.bool false), .lit (.bool false)]], []) := by kernel_rfl
  obtain ⟨⟨x1, x2, x3⟩, hx, hx1⟩ := Option.map_eq_some_iff.1 hw
  simp only [Prod.mk.injEq] at hx1
  obtain ⟨rfl, rfl⟩ := hx1
  exact OpenSpec.preRow_of_cond 8 hx (by kernel_rfl) (fun k hk => by cases hk; rfl) (by kernel_rfl) (laid_met os _)
set_option maxRecDepth 100000 in
set_option maxHeartbeats 2000000 in
theorem lifted (os : Os) (started : os.Started) (H : Type) (enc : TypeId × Value → H) (F : Stop.Interp) :
    ReturnsInHanded {} Tryz.checked os 3 .any ((Rows.OpenSpec.upto Rows.itemModesSpec).preRow enc Tryz.prog Tryz.f3 Rows.itemModesUptoRow.domain false Rows.itemModesUptoRow.laid) (((Rows.OpenSpec.upto Rows.itemModesSpec).at F).post enc Tryz.prog Tryz.f3 false true false false) := by
  refine returnsInHanded_of_row (C := Tryz.checked) (s := (Rows.OpenSpec.upto Rows.itemModesSpec)) own started (by kernel_rfl) Tryz.func3
    (witness_row_atRef (enc := enc) (C := Tryz.checked) false (laidWorld os) #[.int .i64 0, .bool false, .bool false, .agg #[.string ByteArray.empty, .string ByteArray.empty, .slice none 0 0, .int .i64 0, .bool false, .bool false]] rfl (by kernel_rfl) (by kernel_rfl) (by kernel_rfl) (witness_row os enc)) ?_
  intro W base args ds gs before hval0 hW _ hcond hsz0 hL hSh _
  have hsz : (DataW.weightsEach Tryz.prog (Tryz.f3.params.toList ++ (Rows.OpenSpec.upto Rows.itemModesSpec).bare.plain.varTypes Tryz.prog) (ds ++ gs)).all (· ≤ reachBytes) = true := hsz0
  have hval : ∀ (j : Nat) t v, Tryz.f3.params[j]? = some t → args[j]? = some v → Value.okWide Tryz.prog W .any base t v := hval0
  have hW' := hW
  obtain ⟨p, q, hA0, hV0, rfl, _, _⟩ := hW
  have hA : DataW.TrodAll enc Tryz.prog W 0 (fun _ => true) true Tryz.f3.params.toList args.toList ds p := hA0
  rw [Tryz.params3] at hA hval hsz
  obtain ⟨v0, vs0, d0, ds0, p0, q0, hargs, rfl, rfl, h0, r0⟩ := trodAll_cons hA
  obtain ⟨v1, vs1, d1, ds1, p1, q1, rfl, rfl, rfl, h1, r1⟩ := trodAll_cons r0
  obtain ⟨v2, vs2, d2, ds2, p2, q2, rfl, rfl, rfl, h2, r2⟩ := trodAll_cons r1
  obtain ⟨v3, vs3, d3, ds3, p3, q3, rfl, rfl, rfl, h3, r3⟩ := trodAll_cons r2
  obtain ⟨rfl, rfl, rfl⟩ := trodAll_nil r3
  obtain rfl : args = #[v0, v1, v2, v3] := by cases args; simp_all
  obtain ⟨rfl, rfl⟩ := trodVars_none hV0
  have hb : Rows.uptoSmall H ([d0, d1, d2, d3] ++ []) = true := hcond _ rfl
  have hb := of_decide_eq_true hb
  simp only [List.append_nil, Rows.uptoBulkAll] at hb
  obtain ⟨a0, rfl, rfl, rfl, w0⟩ := open_int Tryz.underlying3 (hval 0 3 v0 rfl rfl) h0
  obtain ⟨a1, rfl, rfl, rfl⟩ := open_bool Tryz.underlying4 (hval 1 4 v1 rfl rfl) h1
  obtain ⟨a2, rfl, rfl, rfl⟩ := open_bool Tryz.underlying4 (hval 2 4 v2 rfl rfl) h2
  have k3 := h3
  have lt3 : ∀ x ∈ p3, x.block < W.heap.size := by obtain ⟨m, hm⟩ := k3; exact DataW.trod_lt m _ _ _ hm
  obtain ⟨cs3, rfl, _⟩ := okWide_struct Tryz.underlying24 (hval 3 24 v3 rfl rfl)
  obtain ⟨n3, g3⟩ := h3
  obtain ⟨x3, rl3, kx3⟩ := (Rd.struct (P := Tryz.prog) (t := 24) Tryz.underlying24 (fun x => x) (fun x => x) (fun _ => rfl) (RdF.cons (Rd.string (P := Tryz.prog) (t := 9) Tryz.underlying9) (RdF.cons (Rd.string (P := Tryz.prog) (t := 9) Tryz.underlying9) (RdF.cons (Rd.slice (P := Tryz.prog) (t := 22) Tryz.underlying22 (Rd.string (P := Tryz.prog) (t := 9) Tryz.underlying9) (by kernel_rfl)) (RdF.cons (Rd.int (P := Tryz.prog) (t := 3) .i64 Tryz.underlying3) (RdF.cons (Rd.bool (P := Tryz.prog) (t := 4) Tryz.underlying4) (RdF.one (Rd.bool (P := Tryz.prog) (t := 4) Tryz.underlying4) rfl (by kernel_rfl)) rfl (by kernel_rfl) (by decide)) rfl (by kernel_rfl) (by decide)) rfl (by kernel_rfl) (by decide)) rfl (by kernel_rfl) (by decide)) rfl (by kernel_rfl) (by decide)) (by kernel_rfl)).opens g3
  have ok3 := (Rd.struct (P := Tryz.prog) (t := 24) Tryz.underlying24 (fun x => x) (fun x => x) (fun _ => rfl) (RdF.cons (Rd.string (P := Tryz.prog) (t := 9) Tryz.underlying9) (RdF.cons (Rd.string (P := Tryz.prog) (t := 9) Tryz.underlying9) (RdF.cons (Rd.slice (P := Tryz.prog) (t := 22) Tryz.underlying22 (Rd.string (P := Tryz.prog) (t := 9) Tryz.underlying9) (by kernel_rfl)) (RdF.cons (Rd.int (P := Tryz.prog) (t := 3) .i64 Tryz.underlying3) (RdF.cons (Rd.bool (P := Tryz.prog) (t := 4) Tryz.underlying4) (RdF.one (Rd.bool (P := Tryz.prog) (t := 4) Tryz.underlying4) rfl (by kernel_rfl)) rfl (by kernel_rfl) (by decide)) rfl (by kernel_rfl) (by decide)) rfl (by kernel_rfl) (by decide)) rfl (by kernel_rfl) (by decide)) rfl (by kernel_rfl) (by decide)) (by kernel_rfl)).sized rl3 (fun n hn => of_decide_eq_true (List.all_eq_true.1 hsz n (DataW.weights_mem_each (j := 3) (t := 24) rfl rfl n hn)))
  obtain ⟨_, _, e3, rfl, ⟨_, _, rfl, rfl, ⟨_, _, rfl, ⟨A3_2, c3_2, rfl, le3_2, hr3_2⟩, ⟨_, _, rfl, rfl, ⟨_, _, rfl, rfl, rfl⟩⟩⟩⟩⟩ := kx3
  obtain rfl : cs3 = #[.string (x3.1), .string (x3.2.1), .slice A3_2 (x3.2.2.1).length c3_2, .int .i64 (x3.2.2.2.1), .bool (x3.2.2.2.2.1), .bool (x3.2.2.2.2.2)] := by cases cs3; simpa [Value.cells] using e3
  clear hA0 hval0 hsz0 hsz hV0
  have htab : Tabs W := ⟨utf8Tabs_of_readsT (U8Types.of196 Tryz.lays196) ⟨by kernel_rfl, by kernel_rfl, by kernel_rfl, by kernel_rfl, by kernel_rfl, by kernel_rfl, by kernel_rfl⟩ (Lib.laidMet.reads hL (.tail _ (.head _))) (Lib.laidMet.reads hL (.head _)), cell_of_shapedOpen_int (zero := #[.int .i64 0]) (t := 3) hSh (of_decide_eq_true (by kernel_rfl)) (by kernel_rfl) rfl (by kernel_rfl) (by kernel_rfl) Tryz.underlying3, trivial⟩
  have mu3 := Nat.le_trans ((Rd.struct (P := Tryz.prog) (t := 24) Tryz.underlying24 (fun x => x) (fun x => x) (fun _ => rfl) (RdF.cons (Rd.string (P := Tryz.prog) (t := 9) Tryz.underlying9) (RdF.cons (Rd.string (P := Tryz.prog) (t := 9) Tryz.underlying9) (RdF.cons (Rd.slice (P := Tryz.prog) (t := 22) Tryz.underlying22 (Rd.string (P := Tryz.prog) (t := 9) Tryz.underlying9) (by kernel_rfl)) (RdF.cons (Rd.int (P := Tryz.prog) (t := 3) .i64 Tryz.underlying3) (RdF.cons (Rd.bool (P := Tryz.prog) (t := 4) Tryz.underlying4) (RdF.one (Rd.bool (P := Tryz.prog) (t := 4) Tryz.underlying4) rfl (by kernel_rfl)) rfl (by kernel_rfl) (by decide)) rfl (by kernel_rfl) (by decide)) rfl (by kernel_rfl) (by decide)) rfl (by kernel_rfl) (by decide)) rfl (by kernel_rfl) (by decide)) (by kernel_rfl)).bulky (bulk H) rl3) (show Rows.uptoBulk d3 ≤ 1048576 by omega)
  obtain ⟨k, hk⟩ := P.itemModes a0 a1 a2 (x3.1) (x3.2.1) (x3.2.2.1) (x3.2.2.2.1) (x3.2.2.2.2.1) (x3.2.2.2.2.2) w0 ok3 mu3
  refine (Go.Proofs.YtaekklpphlcngaaGreatDoor.Q.cardexlaw14_ItemModes.calls k a0 a1 a2 (x3.1) (x3.2.1) (fun k_ => k_ < W.heap.size) A3_2 c3_2 (x3.2.2.1) (x3.2.2.2.1) (x3.2.2.2.2.1) (x3.2.2.2.2.2) true W (Kd.V_mk le3_2 (Kd.C_F Kd.heap_string hr3_2)) hk htab rfl).mono ?_
  rintro e W' ⟨rfl, bel⟩
  refine ⟨_, rfl, _, _, _, [], _, [], hW', trodAll_mk1 (shut_bool Tryz.underlying4 _), (trodAll_cons_mk (shut_int Tryz.underlying3 w0) (trodAll_cons_mk (shut_bool Tryz.underlying4 _) (trodAll_cons_mk (shut_bool Tryz.underlying4 _) (trodAll_cons_mk (Below.trod laidOut (by kernel_rfl) (of_decide_eq_true (by kernel_rfl)) k3 bel lt3) trodAll_mk0)))), rfl, bel.frame _, fun h => by cases h⟩
theorem row_holds : Rows.ItemModesUptoSaid :=
  OpenClaim.holds_of_cond 3 Tryz.f3 rfl rfl rfl rfl rfl rfl rfl ⟨rfl, rfl, rfl, rfl, rfl⟩ rfl rfl rfl rfl rfl (by kernel_rfl) Tryz.func3 (by kernel_rfl)
    (of_decide_eq_true (by kernel_rfl)) (by unfold Func.isWrapper; first | (rw [if_pos (by decide +kernel)]; kernel_rfl) | (rw [if_neg (by decide +kernel)]; exact ⟨rfl, rfl⟩))
    (fun os started H enc _ F0 => by rw [OpenClaim.pre_eq_preRow]; exact lifted os started H enc F0)
end LItemModes
theorem itemModes_card : Rows.ItemModesUptoCardSaid :=
  Claim7.holds_tied_plain_at .later [] [.data, .pinned] true (true, "d05b7520aab17b25d561563c7dcc3d791290e5e8ed62b7c53d04c119eedaf0fd") false
    LItemModes.row_holds (fun _ h => by cases h) (by kernel_rfl) (fun _ h => by cases h) itemModesUpto_row_tie rfl ⟨rfl, rfl⟩ (by kernel_rfl) rfl
    (fun f fn hf hfn => by
      obtain rfl : f = 3 := Option.some.inj ((show Tryz.prog.funcNamed "cardex/cardexlaw14.ItemModes" = some 3 by kernel_rfl).symm.trans hf) |>.symm
      obtain rfl : fn = Tryz.f3 := (Option.some.inj (Tryz.func3.symm.trans hfn)).symm
      exact ⟨by kernel_rfl, fun j t ht => by
        rw [Tryz.params3] at ht
        have hall : ∀ u, u ∈ ([3, 4, 24] : List Nat) → Tryz.prog.wantsStandIn u = false := by
          intro u hu
          simp only [List.mem_cons, List.mem_nil_iff, or_false] at hu
          rcases hu with rfl | rfl | rfl
          · kernel_rfl
          · kernel_rfl
          · kernel_rfl
        refine hall t ?_
        simp only [List.mem_cons, List.mem_nil_iff, or_false]
        rcases j with _ | _ | _ | _ | j
        all_goals simp at ht
        all_goals (subst ht; simp)⟩)
    (by kernel_rfl)
#print axioms itemModes_card
end Go.Proofs.YtaekklpphlcngaaGreatDoor
