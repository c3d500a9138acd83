/- The program's FactDo returns what the reference's FactDo returns, for every list of blocks and every fact. Conditions: none. -/
import Derived.Test.YtmnjppfebaeoiaaLawBlock
import Derived.Test.YtmnjppfebaeoiaaFactPure
import Derived.Test.YtmnjppfebaeoiaaPB1x15
import Derived.Test.YtmnjppfebaeoiaaPB1x22
import Derived.Test.YtmnjppfebaeoiaaPB1x36
import Derived.Test.YtmnjppfebaeoiaaPB1x37
import Derived.Test.YtmnjppfebaeoiaaPB1x4
namespace Go.Proofs.Ytmnjppfebaeoiaa.Pure
open Go.RowKit Go.Proofs.Ytmnjppfebaeoiaa.Base Go.Proofs.Ytmnjppfebaeoiaa.PB1 Go.Proofs.YtmnjppfebaeoiaaW.PrintWords Go.Proofs.YtmnjppfebaeoiaaW.PrintLast

theorem FnExactFactDo : laws_FnExactFactDo.Pure := by
  intro l f0 f1 f2 f3 f4 ⟨hn, hl⟩ _ _ _ h3 h4
  have hb : wfB (⟨f3, f4⟩ : BI) := ⟨wf_i64 h3, wf_i64 h4⟩
  obtain ⟨F, hF⟩ : ∃ F, F = 4 * l.length + 49 := ⟨_, rfl⟩
  refine ⟨F + 1 + 1 + 1, ?_⟩
  unfold laws_FnExactFactDo.f
  rw [szBlockS_eq l _ hn (by omega) (by omega), Option.bind_some]
  by_cases c : (1048576 : Int) < l.length
  · rw [if_pos c, if_pos (by omega)]
  · rw [if_neg c, if_neg (by omega)]
    have hwf : ∀ b ∈ l.map toB, wfB b := by
      intro b hb
      obtain ⟨x, hx, rfl⟩ := List.mem_map.1 hb
      exact ⟨wf_i64 (hl x hx).1, wf_i64 (hl x hx).2⟩
    have hlen : (l.map toB).length = l.length := List.length_map ..
    generalize hm : l.map toB = m at hwf hlen
    have hol := stepOf_len m ⟨f0, f1, f2, f3, f4⟩
    have T : ∀ k, F ≤ k → laws_toBlockS.f k l = some m := fun k hk => by rw [toBlockS_eq l (by omega) k (by omega), hm]
    have B : laws_toFact.f f0 f1 f2 f3 f4 = some (f0, f1, f2, f3, f4) := rfl
    have S : ∀ k, F ≤ k → spec_FactDo.f k m f0 f1 f2 f3 f4 = some (stepOf m ⟨f0, f1, f2, f3, f4⟩) := fun k hk => spec_step m ⟨f0, f1, f2, f3, f4⟩ hwf hb (by omega) k (by omega)
    have I : ∀ k, F ≤ k → impl_FactDo.f k m f0 f1 f2 f3 f4 = some (stepOf m ⟨f0, f1, f2, f3, f4⟩) := fun k hk => by
      unfold impl_FactDo.f
      rw [impl_step m ⟨f0, f1, f2, f3, f4⟩ hwf hb (by omega) k (by omega), Option.bind_some]
    generalize stepOf m ⟨f0, f1, f2, f3, f4⟩ = q at S I hol
    obtain ⟨q1, q2⟩ := q
    dsimp only at hol
    have E : ∀ k, F ≤ k → laws_eqBlockS.f k q1 q1 = some true := fun k hk => eqBlockS_self q1 (by omega) k (by omega)
    have E2 : ∀ k, F ≤ k → laws_eqBlockS.f k m m = some true := fun k hk => eqBlockS_self m (by omega) k (by omega)
    have M := fun k (hk : F ≤ k) => markBlockS_eq q1 (by omega) k (by omega)
    have M2 := fun k (hk : F ≤ k) => markBlockS_eq m (by omega) k (by omega)
    have D := fun k (hk : F ≤ k) => heldBlockS_eq q1.length (by omega) k (by omega)
    rw [T _ (by omega), Option.bind_some, B, Option.bind_some, S _ (by omega), Option.bind_some, Option.bind_some, Option.bind_some, I _ (by omega), Option.bind_some, E _ (by omega), Option.bind_some, if_pos rfl]
    rw [laws_FnExactFactDo.j0, if_neg (by simp), T _ (by omega), Option.bind_some, E2 _ (by omega), Option.bind_some, if_pos rfl, M2 _ (by omega), Option.bind_some, if_neg (by simp; omega), E _ (by omega), Option.bind_some, if_pos rfl]
    rw [laws_FnExactFactDo.j1, if_neg (by simp), M _ (by omega), Option.bind_some, D _ (by omega), Option.bind_some, if_neg (by omega), if_pos rfl, T _ (by omega), Option.bind_some, B, Option.bind_some, I _ (by omega), Option.bind_some, E _ (by omega), Option.bind_some, if_pos rfl]
    rw [laws_FnExactFactDo.j2, if_neg (by simp), D _ (by omega), Option.bind_some, if_neg (by omega), if_pos rfl]
end Go.Proofs.Ytmnjppfebaeoiaa.Pure
