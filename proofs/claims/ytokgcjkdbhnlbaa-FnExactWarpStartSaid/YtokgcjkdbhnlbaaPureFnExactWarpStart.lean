/- The program's WarpStart returns what the reference's WarpStart returns, for all ints. Conditions: none. -/
import Derived.Test.YtokgcjkdbhnlbaaPFnExactWarpStartx1
namespace Go.Proofs.Ytokgcjkdbhnlbaa.Pure
open Go.RowKit Go.Proofs.Ytokgcjkdbhnlbaa.PFnExactWarpStart Go.Proofs.YtokgcjkdbhnlbaaW.PrintWords Go.Proofs.YtokgcjkdbhnlbaaW.PrintLast

theorem FnExactWarpStart : laws_FnExactWarpStart.Pure := by
  intro a b c _ _ _
  unfold laws_FnExactWarpStart.f spec_WarpStart.f impl_WarpStart.f impl_isClass.f spec_l04Class.f
  simp only [impl_within.f]
  by_cases h1 : a < 0
  · simp [h1, show ¬ (a ≥ 0) by omega]
  by_cases h2 : a > 3
  · simp [h1, h2, show a ≥ 0 by omega, show ¬ (a ≤ 3) by omega]
  by_cases h3 : b ≥ 0
  · by_cases h4 : b < 5
    · by_cases h5 : c < 1
      · simp [h1, h2, h3, h4, h5, show a ≥ 0 by omega, show a ≤ 3 by omega, show b ≤ 4 by omega, show ¬ (c ≥ 1) by omega]
      · by_cases h6 : c > 16
        · simp [h1, h2, h3, h4, h5, h6, show a ≥ 0 by omega, show a ≤ 3 by omega, show b ≤ 4 by omega, show c ≥ 1 by omega, show ¬ (c ≤ 16) by omega]
        · simp [h1, h2, h3, h4, h5, h6, show a ≥ 0 by omega, show a ≤ 3 by omega, show b ≤ 4 by omega, show c ≥ 1 by omega, show c ≤ 16 by omega, show ¬ (c = 0) by omega]
    · simp [h1, h2, h3, h4, show a ≥ 0 by omega, show a ≤ 3 by omega, show ¬ (b ≤ 4) by omega]
  · simp [h1, h2, h3, show a ≥ 0 by omega, show a ≤ 3 by omega]

end Go.Proofs.Ytokgcjkdbhnlbaa.Pure
