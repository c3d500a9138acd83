/- The program's LiveSum returns what the reference's LiveSum returns, for every list of blocks and every number of words. Conditions: none. -/
import Derived.Test.YtgccnoknhffhjaaLiveOk
import Derived.Test.YtgccnoknhffhjaaPA1x29
namespace Go.Proofs.Ytgccnoknhffhjaa.Pure
open Go.RowKit Go.Proofs.Ytgccnoknhffhjaa.Base Go.Proofs.Ytgccnoknhffhjaa.PA1 Go.Proofs.YtgccnoknhffhjaaW.PrintWords Go.Proofs.YtgccnoknhffhjaaW.PrintLast

theorem spec_sum (l : List BI) (hn : l.length ≤ 1048576) : ∀ (d i : Nat) (s : Int) (k : Nat), i + d = l.length → d < k →
    ∃ r, spec_LiveSum.l0 k l s (i : Int) = some r ∧ impl_LiveSum.l0 k s l (l.length : Int) (i : Int) = some r
  | 0, i, s, k, hd, hk => by
    obtain ⟨k, rfl⟩ : ∃ m, k = m + 1 := ⟨k - 1, by omega⟩
    refine ⟨s, ?_, ?_⟩
    · simp only [spec_LiveSum.l0]; rw [if_neg (by omega)]
    · simp only [impl_LiveSum.l0]; rw [if_neg (by omega)]
  | d + 1, i, s, k, hd, hk => by
    obtain ⟨k, rfl⟩ : ∃ m, k = m + 1 := ⟨k - 1, by omega⟩
    obtain ⟨r, h1, h2⟩ := spec_sum l hn d (i + 1) (wrap64 (s + (rd_T30 l (i : Int)).f1)) k (by omega) (by omega)
    rw [show ((i + 1 : Nat) : Int) = (i : Int) + 1 by omega] at h1 h2
    refine ⟨r, ?_, ?_⟩
    · simp only [spec_LiveSum.l0]; rw [if_pos (by omega), if_pos (by omega), w64 (n := (i : Int) + 1) (by omega) (by omega)]; exact h1
    · simp only [impl_LiveSum.l0]; rw [if_pos (by omega), if_pos (by omega), if_pos (by omega), w64 (n := (i : Int) + 1) (by omega) (by omega)]; exact h2

theorem FnExactLiveSum : laws_FnExactLiveSum.Pure := by
  intro l w ⟨hn, hl⟩ hw
  refine ⟨l.length + 3, ?_⟩
  unfold laws_FnExactLiveSum.f
  rw [szBlockS_eq l _ hn (by omega) (by omega)]
  simp only [Option.bind_some]
  by_cases c : (1048576 : Int) < l.length
  · rw [if_pos c, if_pos (by omega)]
  · rw [if_neg c, if_neg (by omega)]
    have hwf : ∀ b ∈ l.map toB, wfB b := by
      intro b hb
      obtain ⟨x, hx, rfl⟩ := List.mem_map.1 hb
      exact ⟨wf_i64 (hl x hx).1, wf_i64 (hl x hx).2⟩
    have hlen : (l.map toB).length = l.length := List.length_map ..
    rw [toBlockS_eq l (by omega) _ (by omega)]
    simp only [Option.bind_some]
    unfold spec_LiveSum.f impl_LiveSum.f
    rw [spec_liveOk _ w hwf (by omega) _ (by omega), impl_areLive_eq _ w hwf (by omega) _ (by omega)]
    simp only [Option.bind_some]
    obtain ⟨r, h1, h2⟩ := spec_sum (l.map toB) (by omega) l.length 0 0 (l.length + 3) (by omega) (by omega)
    rw [show ((0 : Nat) : Int) = 0 from rfl] at h1 h2
    rw [h1, h2]
    cases liveOk (l.map toB) w
    · simp [eqBlockS_self (l.map toB) (by omega) (l.length + 3) (by omega)]
    · simp [eqBlockS_self (l.map toB) (by omega) (l.length + 3) (by omega)]

end Go.Proofs.Ytgccnoknhffhjaa.Pure
