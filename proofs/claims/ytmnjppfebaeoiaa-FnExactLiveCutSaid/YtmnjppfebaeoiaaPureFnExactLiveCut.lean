/- The program's LiveCut returns what the reference's LiveCut returns, for every list of blocks, number of words and word. Conditions: none. -/
import Derived.Test.YtmnjppfebaeoiaaLawBlock
import Derived.Test.YtmnjppfebaeoiaaCutAdd
import Derived.Test.YtmnjppfebaeoiaaPB1x14
import Derived.Test.YtmnjppfebaeoiaaPB1x15
import Derived.Test.YtmnjppfebaeoiaaPB1x4
import Derived.Test.YtmnjppfebaeoiaaPB1x42
namespace Go.Proofs.Ytmnjppfebaeoiaa.Pure
open Go.RowKit Go.Proofs.Ytmnjppfebaeoiaa.Base Go.Proofs.Ytmnjppfebaeoiaa.PB1 Go.Proofs.YtmnjppfebaeoiaaW.PrintWords Go.Proofs.YtmnjppfebaeoiaaW.PrintLast

theorem FnExactLiveCut : laws_FnExactLiveCut.Pure := by
  intro l w t ⟨hn, hl⟩ hw ht
  obtain ⟨F, hF⟩ : ∃ F, F = 4 * l.length + 49 := ⟨_, rfl⟩
  refine ⟨F + 1 + 1 + 1, ?_⟩
  unfold laws_FnExactLiveCut.f
  rw [szBlockS_eq l _ hn (by omega) (by omega), Option.bind_some]
  by_cases c : (1048576 : Int) < l.length
  · rw [if_pos c, if_pos (by omega)]
  · rw [if_neg c, if_neg (by omega)]
    have hwf : ∀ b ∈ l.map toB, wfB b := by
      intro b hb
      obtain ⟨x, hx, rfl⟩ := List.mem_map.1 hb
      exact ⟨wf_i64 (hl x hx).1, wf_i64 (hl x hx).2⟩
    have hlen : (l.map toB).length = l.length := List.length_map ..
    generalize hm : l.map toB = m at hwf hlen
    have hol := cutOf_len m w t
    have T : ∀ k, F ≤ k → laws_toBlockS.f k l = some m := fun k hk => by rw [toBlockS_eq l (by omega) k (by omega), hm]
    have S : ∀ k, F ≤ k → spec_LiveCut.f k m w t = some (cutOf m w t) := fun k hk => spec_cut_eq m w t hwf (by omega) k (by omega)
    have I : ∀ k, F ≤ k → impl_LiveCut.f k m w t = some (cutOf m w t) := fun k hk => impl_cut_eq m w t hwf (by omega) k (by omega)
    generalize cutOf m w t = q at S I hol
    obtain ⟨q1, q2, q3⟩ := q
    dsimp only at hol
    have E : ∀ k, F ≤ k → laws_eqBlockS.f k q1 q1 = some true := fun k hk => eqBlockS_self q1 (by omega) k (by omega)
    have E2 : ∀ k, F ≤ k → laws_eqBlockS.f k m m = some true := fun k hk => eqBlockS_self m (by omega) k (by omega)
    have M := fun k (hk : F ≤ k) => markBlockS_eq q1 (by omega) k (by omega)
    have M2 := fun k (hk : F ≤ k) => markBlockS_eq m (by omega) k (by omega)
    have D := fun k (hk : F ≤ k) => heldBlockS_eq q1.length (by omega) k (by omega)
    rw [T _ (by omega), Option.bind_some, S _ (by omega), Option.bind_some, Option.bind_some, I _ (by omega), Option.bind_some, E _ (by omega), Option.bind_some, if_pos rfl, if_pos rfl]
    rw [laws_FnExactLiveCut.j0, if_neg (by simp), T _ (by omega), Option.bind_some, E2 _ (by omega), Option.bind_some, if_pos rfl, M2 _ (by omega), Option.bind_some, if_neg (by simp; omega), E _ (by omega), Option.bind_some, if_pos rfl, if_pos rfl]
    rw [laws_FnExactLiveCut.j1, if_neg (by simp), M _ (by omega), Option.bind_some, D _ (by omega), Option.bind_some, if_neg (by omega), if_pos rfl, T _ (by omega), Option.bind_some, I _ (by omega), Option.bind_some, E _ (by omega), Option.bind_some, if_pos rfl, if_pos rfl]
    rw [laws_FnExactLiveCut.j2, if_neg (by simp), D _ (by omega), Option.bind_some, if_neg (by omega), if_pos rfl]
end Go.Proofs.Ytmnjppfebaeoiaa.Pure
