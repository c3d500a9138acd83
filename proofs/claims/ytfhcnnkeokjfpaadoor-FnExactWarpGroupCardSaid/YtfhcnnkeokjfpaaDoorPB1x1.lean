/- What functions of the program compute, each as a Lean function, and that the run comes to just that. Conditions: none. (Laid by this session's own program.) -/
import Derived.Test.YtfhcnnkeokjfpaaDoorT
import Derived.Test.YtfhcnnkeokjfpaaDoorPB1x0
namespace Go.Proofs.YtfhcnnkeokjfpaaDoor.PB1
open Go.RowKit Go.Proofs.YtfhcnnkeokjfpaaDoorW.PrintWords Go.Proofs.YtfhcnnkeokjfpaaDoorW.PrintLast Go.Proofs.YtfhcnnkeokjfpaaDoorW.PrintMore Go.Proofs.YtfhcnnkeokjfpaaDoor.T
attribute [local go_sem] max2_int min2_int max_two min_two max_three min_three max_four min_four   -- for this text's walks alone
set_option linter.unusedVariables false
set_option linter.unusedSimpArgs false

theorem eqA91 (d : Nat) (w : World) (x0 y0 : Int) (x1 y1 : Int) (x2 y2 : Int) (x3 y3 : Int) :
    (Op.equalIn (d + 2) 91 (.agg #[.int .i64 x0, .int .i64 x1, .int .u32 x2, .int .i64 x3]) (.agg #[.int .i64 y0, .int .i64 y1, .int .u32 y2, .int .i64 y3])).run Tryd.prog w = .ok (x0 == y0 && (x1 == y1 && (x2 == y2 && (x3 == y3)))) w := by
  refine eqA_of Tryd.underlying91 kr ?_
  refine eqf_cons (by rfl) (by go_simp; rfl) (by go_simp; rfl) (by go_simp) ?_
  refine eqf_cons (by rfl) (by go_simp; rfl) (by go_simp; rfl) (by go_simp) ?_
  refine eqf_cons (by rfl) (by go_simp; rfl) (by go_simp; rfl) (by go_simp) ?_
  exact eqf_last (by rfl) (by go_simp; rfl) (by go_simp; rfl) (by go_simp)
end Go.Proofs.YtfhcnnkeokjfpaaDoor.PB1
