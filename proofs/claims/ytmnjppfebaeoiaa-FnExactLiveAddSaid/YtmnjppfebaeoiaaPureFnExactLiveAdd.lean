/- The program's LiveAdd returns what the reference's LiveAdd returns, for every list of blocks, number of words and block. Conditions: none. -/
import Derived.Test.YtmnjppfebaeoiaaLawBlock
import Derived.Test.YtmnjppfebaeoiaaCutAdd
import Derived.Test.YtmnjppfebaeoiaaPB1x15
import Derived.Test.YtmnjppfebaeoiaaPB1x4
import Derived.Test.YtmnjppfebaeoiaaPB1x41
import Derived.Test.YtmnjppfebaeoiaaPB1x9
namespace Go.Proofs.Ytmnjppfebaeoiaa.Pure
open Go.RowKit Go.Proofs.Ytmnjppfebaeoiaa.Base Go.Proofs.Ytmnjppfebaeoiaa.PB1 Go.Proofs.YtmnjppfebaeoiaaW.PrintWords Go.Proofs.YtmnjppfebaeoiaaW.PrintLast

theorem FnExactLiveAdd : laws_FnExactLiveAdd.Pure := by
  intro l w b0 b1 ⟨hn, hl⟩ hw hb0 hb1
  have hb : wfB (⟨b0, b1⟩ : BI) := ⟨wf_i64 hb0, wf_i64 hb1⟩
  obtain ⟨F, hF⟩ : ∃ F, F = 4 * l.length + 49 := ⟨_, rfl⟩
  refine ⟨F + 1 + 1 + 1, ?_⟩
  unfold laws_FnExactLiveAdd.f
  rw [szBlockS_eq l _ hn (by omega) (by omega), Option.bind_some]
  by_cases c : (1048576 : Int) < l.length
  · rw [if_pos c, if_pos (by omega)]
  · rw [if_neg c, if_neg (by omega)]
    have hwf : ∀ b ∈ l.map toB, wfB b := by
      intro b hb
      obtain ⟨x, hx, rfl⟩ := List.mem_map.1 hb
      exact ⟨wf_i64 (hl x hx).1, wf_i64 (hl x hx).2⟩
    have hlen : (l.map toB).length = l.length := List.length_map ..
    generalize hm : l.map toB = m at hwf hlen
    have hol := addOf_len m w ⟨b0, b1⟩
    have T : ∀ k, F ≤ k → laws_toBlockS.f k l = some m := fun k hk => by rw [toBlockS_eq l (by omega) k (by omega), hm]
    have B : laws_toBlock.f b0 b1 = some (b0, b1) := rfl
    have S : ∀ k, F ≤ k → spec_LiveAdd.f k m w b0 b1 = some (addOf m w ⟨b0, b1⟩) := fun k hk => spec_add_eq m w ⟨b0, b1⟩ hwf hb (by omega) k (by omega)
    have I : ∀ k, F ≤ k → impl_LiveAdd.f k m w b0 b1 = some (addOf m w ⟨b0, b1⟩) := fun k hk => impl_add_eq m w ⟨b0, b1⟩ hwf hb (by omega) k (by omega)
    generalize addOf m w ⟨b0, b1⟩ = q at S I hol
    obtain ⟨q1, q2⟩ := q
    dsimp only at hol
    have E : ∀ k, F ≤ k → laws_eqBlockS.f k q1 q1 = some true := fun k hk => eqBlockS_self q1 (by omega) k (by omega)
    have E2 : ∀ k, F ≤ k → laws_eqBlockS.f k m m = some true := fun k hk => eqBlockS_self m (by omega) k (by omega)
    have M := fun k (hk : F ≤ k) => markBlockS_eq q1 (by omega) k (by omega)
    have M2 := fun k (hk : F ≤ k) => markBlockS_eq m (by omega) k (by omega)
    have D := fun k (hk : F ≤ k) => heldBlockS_eq q1.length (by omega) k (by omega)
    rw [T _ (by omega), Option.bind_some, B, Option.bind_some, S _ (by omega), Option.bind_some, Option.bind_some, Option.bind_some, I _ (by omega), Option.bind_some, E _ (by omega), Option.bind_some, if_pos rfl]
    rw [laws_FnExactLiveAdd.j0, if_neg (by simp), T _ (by omega), Option.bind_some, E2 _ (by omega), Option.bind_some, if_pos rfl, M2 _ (by omega), Option.bind_some, if_neg (by simp; omega), E _ (by omega), Option.bind_some, if_pos rfl]
    rw [laws_FnExactLiveAdd.j1, if_neg (by simp), M _ (by omega), Option.bind_some, D _ (by omega), Option.bind_some, if_neg (by omega), if_pos rfl, T _ (by omega), Option.bind_some, B, Option.bind_some, I _ (by omega), Option.bind_some, E _ (by omega), Option.bind_some, if_pos rfl]
    rw [laws_FnExactLiveAdd.j2, if_neg (by simp), D _ (by omega), Option.bind_some, if_neg (by omega), if_pos rfl]
end Go.Proofs.Ytmnjppfebaeoiaa.Pure
