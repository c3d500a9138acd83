/- The program's Bound returns what the reference's Bound returns, for every int. Conditions: none. -/
import Derived.Test.YtokgcjkdbhnlbaaPFnExactBoundx1
namespace Go.Proofs.Ytokgcjkdbhnlbaa.Pure
open Go.RowKit Go.Proofs.Ytokgcjkdbhnlbaa.PFnExactBound Go.Proofs.YtokgcjkdbhnlbaaW.PrintWords Go.Proofs.YtokgcjkdbhnlbaaW.PrintLast

theorem FnExactBound : laws_FnExactBound.Pure := by
  intro a _
  unfold laws_FnExactBound.f spec_Bound.f impl_Bound.f impl_within.f
  by_cases h : a < 0
  · simp [h, show ¬ (a ≥ 0) by omega]
  by_cases h2 : a > 16
  · simp [h, h2, show a ≥ 0 by omega, show ¬ (a ≤ 16) by omega]
  · simp [h, h2, show a ≥ 0 by omega, show a ≤ 16 by omega]

end Go.Proofs.Ytokgcjkdbhnlbaa.Pure
