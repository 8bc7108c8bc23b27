-- Written by hookprint.py (wip/) of this session: the kit's print with hand-proved functions beside it. Not trusted: Lean checks it.
import Derived.Test.YtmhfjeekhkoikaaGreatDoorQ0
namespace Go.Proofs.YtmhfjeekhkoikaaGreatDoor.Q
open Go.RowKit Go.Lib Go.Proofs.YtmhfjeekhkoikaaGreatDoorX Go.Proofs.YtmhfjeekhkoikaaGreatDoorW.PrintWords Go.Proofs.YtmhfjeekhkoikaaGreatDoorW.PrintLast Go.Proofs.YtmhfjeekhkoikaaGreatDoorW.PrintMore
set_option linter.unusedVariables false
set_option linter.unusedSimpArgs false
theorem eqA23 (d : Nat) (w : World) (x0 y0 : ByteArray) (x1 y1 : ByteArray) (x2 y2 : ByteArray) :
    (Op.equalIn (d + 2) 23 (.agg #[.string x0, .string x1, .string x2]) (.agg #[.string y0, .string y1, .string y2])).run Tryz.prog w = .ok (x0.toList == y0.toList && (x1.toList == y1.toList && (x2.toList == y2.toList))) w := by
  refine eqA_of Tryz.underlying23 (by kernel_rfl) ?_
  refine eqf_cons (by rfl) (by go_simp; rfl) (by go_simp; rfl) (by go_simp) ?_
  refine eqf_cons (by rfl) (by go_simp; rfl) (by go_simp; rfl) (by go_simp) ?_
  exact eqf_last (by rfl) (by go_simp; rfl) (by go_simp; rfl) (by go_simp)
end Go.Proofs.YtmhfjeekhkoikaaGreatDoor.Q
