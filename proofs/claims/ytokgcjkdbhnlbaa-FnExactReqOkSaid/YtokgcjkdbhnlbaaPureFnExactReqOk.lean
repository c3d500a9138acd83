/- The program's ReqOk returns what the reference's ReqOk returns, for every request. Conditions: none. -/
import Derived.Test.YtokgcjkdbhnlbaaReqPure
import Derived.Test.YtokgcjkdbhnlbaaLawInts
import Derived.Test.YtokgcjkdbhnlbaaPA2x3
import Derived.Test.YtokgcjkdbhnlbaaPA2x4
import Derived.Test.YtokgcjkdbhnlbaaPA2x5
set_option linter.unusedSimpArgs false
namespace Go.Proofs.Ytokgcjkdbhnlbaa.Pure
open Go.RowKit Go.Proofs.Ytokgcjkdbhnlbaa.Base Go.Proofs.Ytokgcjkdbhnlbaa.PA2 Go.Proofs.YtokgcjkdbhnlbaaW.PrintWords Go.Proofs.YtokgcjkdbhnlbaaW.PrintLast

theorem FnExactReqOk : laws_FnExactReqOk.Pure := by
  intro a l _ ⟨hn, _⟩
  refine ⟨l.length + 50, ?_⟩
  unfold laws_FnExactReqOk.f laws_szReq.f
  rw [szIntS_eq l _ hn (by omega) (by omega)]
  simp only [Option.bind_some]
  by_cases hc : (1048576 : Int) < l.length
  · rw [if_pos hc]; simp
  · rw [if_neg hc]
    have e1 : laws_toReq.f (l.length + 50) a l = some (a, l) := by
      unfold laws_toReq.f
      rw [toIntS_eq l (by omega) _ (by omega)]
      rfl
    have e4 : laws_eqReq.f (l.length + 50) a l a l = some true := by
      unfold laws_eqReq.f
      rw [eqIntS_self l (by omega) _ (by omega)]
      simp
    have e5 : impl_ReqOk.f a l = some (reqOk a l) := by
      unfold impl_ReqOk.f
      rw [impl_req a l]
      rfl
    simp only [Option.bind_some, e1, spec_req a l _ (show 10 < l.length + 50 by omega), e5, e4]
    rw [if_neg (show ¬ ((1048576 : Int) - l.length < 0) by omega)]
    simp only [Option.bind_some]
    rw [if_neg (by omega)]
    simp

end Go.Proofs.Ytokgcjkdbhnlbaa.Pure
