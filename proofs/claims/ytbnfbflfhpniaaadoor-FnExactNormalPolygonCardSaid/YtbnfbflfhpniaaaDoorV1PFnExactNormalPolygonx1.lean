-- Printed for this claim by this session's program pp.py, which drives the kit's print with additions. Not trusted: Lean checks it.
import Derived.Test.YtbnfbflfhpniaaaDoorV1PFnExactNormalPolygonx0
namespace Go.Proofs.YtbnfbflfhpniaaaDoor.PFnExactNormalPolygon
open Go.RowKit Go.Proofs.YtbnfbflfhpniaaaDoorW.PrintWords Go.Proofs.YtbnfbflfhpniaaaDoorW.PrintLast Go.Proofs.YtbnfbflfhpniaaaDoorW.PrintMore
attribute [local go_sem] zbB ziC zrC zhD znE zuB znH zkT   -- for this text's walks alone
set_option linter.unusedVariables false
set_option linter.unusedSimpArgs false

theorem eqA33 (d : Nat) (w : World) (x0 y0 : Int) (x1 y1 : Int) (x2 y2 : Int) :
  (Op.equalIn (d + 2) 33 (.agg #[.int .i64 x0, .int .i64 x1, .int .i64 x2]) (.agg #[.int .i64 y0, .int .i64 y1, .int .i64 y2])).run Tryd.prog w = .ok (x0 == y0 && (x1 == y1 && (x2 == y2))) w := by
 refine eqA_of Tryd.underlying33 (by kernel_rfl) ?_
 refine eqf_cons (by rfl) (by go_simp; rfl) (by go_simp; rfl) (by go_simp) ?_
 refine eqf_cons (by rfl) (by go_simp; rfl) (by go_simp; rfl) (by go_simp) ?_
 exact eqf_last (by rfl) (by go_simp; rfl) (by go_simp; rfl) (by go_simp)
end Go.Proofs.YtbnfbflfhpniaaaDoor.PFnExactNormalPolygon
