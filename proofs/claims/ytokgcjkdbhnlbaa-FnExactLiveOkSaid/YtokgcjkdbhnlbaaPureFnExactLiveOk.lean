/- The program's LiveOk returns what the reference's LiveOk returns, for every list of blocks and every number of words. Conditions: none. -/
import Derived.Test.YtokgcjkdbhnlbaaLiveOk
import Derived.Test.YtokgcjkdbhnlbaaPA1x3
namespace Go.Proofs.Ytokgcjkdbhnlbaa.Pure
open Go.RowKit Go.Proofs.Ytokgcjkdbhnlbaa.Base Go.Proofs.Ytokgcjkdbhnlbaa.PA1 Go.Proofs.YtokgcjkdbhnlbaaW.PrintWords Go.Proofs.YtokgcjkdbhnlbaaW.PrintLast

theorem FnExactLiveOk : laws_FnExactLiveOk.Pure := by
  intro l w ⟨hn, hl⟩ hw
  refine ⟨l.length + 3, ?_⟩
  unfold laws_FnExactLiveOk.f
  rw [szBlockS_eq l _ hn (by omega) (by omega)]
  simp only [Option.bind_some]
  by_cases c : (1048576 : Int) < l.length
  · rw [if_pos c, if_pos (by omega)]
  · rw [if_neg c, if_neg (by omega)]
    have hwf : ∀ b ∈ l.map toB, wfB b := by
      intro b hb
      obtain ⟨x, hx, rfl⟩ := List.mem_map.1 hb
      exact ⟨wf_i64 (hl x hx).1, wf_i64 (hl x hx).2⟩
    have hlen : (l.map toB).length = l.length := List.length_map ..
    rw [toBlockS_eq l (by omega) _ (by omega)]
    simp only [Option.bind_some]
    unfold impl_LiveOk.f
    rw [spec_liveOk _ w hwf (by omega) _ (by omega), impl_areLive_eq _ w hwf (by omega) _ (by omega)]
    simp only [Option.bind_some]
    rw [if_neg (by simp), eqBlockS_self _ (by omega) _ (by omega)]
    rfl


end Go.Proofs.Ytokgcjkdbhnlbaa.Pure
