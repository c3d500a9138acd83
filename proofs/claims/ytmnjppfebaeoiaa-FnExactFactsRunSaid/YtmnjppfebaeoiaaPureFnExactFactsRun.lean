/- The program's FactsRun returns what the reference's FactsRun returns, for every list of facts. Conditions: none. -/
import Derived.Test.YtmnjppfebaeoiaaLawBlock
import Derived.Test.YtmnjppfebaeoiaaFactLaw
import Derived.Test.YtmnjppfebaeoiaaFactPure
import Derived.Test.YtmnjppfebaeoiaaPB1x38
import Derived.Test.YtmnjppfebaeoiaaPB1x4
import Derived.Test.YtmnjppfebaeoiaaPB1x40
namespace Go.Proofs.Ytmnjppfebaeoiaa.Pure
open Go.RowKit Go.Proofs.Ytmnjppfebaeoiaa.Base Go.Proofs.Ytmnjppfebaeoiaa.PB1 Go.Proofs.YtmnjppfebaeoiaaW.PrintWords Go.Proofs.YtmnjppfebaeoiaaW.PrintLast

def runFrom : List FI → List BI → Int → List BI × Int
  | [], live, _ => (live, -1)
  | f :: r, live, i => if (stepOf live f).2 = true then runFrom r (stepOf live f).1 (i + 1) else ([], i)
theorem runFrom_len : ∀ (l : List FI) (live : List BI) (i : Int), (runFrom l live i).1.length ≤ live.length + l.length
  | [], live, i => by simp [runFrom]
  | f :: r, live, i => by
    have h1 := stepOf_len live f
    have h2 := runFrom_len r (stepOf live f).1 (i + 1)
    rw [runFrom, List.length_cons]
    split
    · omega
    · simp
theorem spec_runs (l : List FI) (hl : ∀ f ∈ l, wfB ⟨f.f3, f.f4⟩) (hn : l.length ≤ 2000) : ∀ (d i : Nat) (live : List BI) (k : Nat), i + d = l.length → d + 20000 < k → (∀ b ∈ live, wfB b) → live.length ≤ i → spec_FactsRun.l0 k l live (i : Int) = some (runFrom (l.drop i) live (i : Int))
  | 0, i, live, k, hd, hk, hw, hv => by
    obtain ⟨k, rfl⟩ : ∃ m, k = m + 1 := ⟨k - 1, by omega⟩
    rw [spec_FactsRun.l0, if_neg (by omega), List.drop_of_length_le (by omega)]
    rfl
  | d + 1, i, live, k, hd, hk, hw, hv => by
    obtain ⟨k, rfl⟩ : ∃ m, k = m + 1 := ⟨k - 1, by omega⟩
    have hi : i < l.length := by omega
    have hf := hl l[i] (List.getElem_mem hi)
    rw [spec_FactsRun.l0, if_pos (by omega), if_pos (by omega), rdFI l i hi, spec_step live l[i] hw hf (by omega) _ (by omega), Option.bind_some, List.drop_eq_getElem_cons hi, runFrom]
    by_cases c : (stepOf live l[i]).2 = true
    · have h1 := stepOf_len live l[i]
      rw [if_pos c, if_pos c, w64 (by omega) (by omega), show (i : Int) + 1 = ((i + 1 : Nat) : Int) by omega]
      exact spec_runs l hl hn d (i + 1) _ k (by omega) (by omega) (stepOf_wf live l[i] hw hf) (by omega)
    · rw [if_neg c, if_neg c]
theorem impl_runs (l : List FI) (hl : ∀ f ∈ l, wfB ⟨f.f3, f.f4⟩) (hn : l.length ≤ 2000) : ∀ (d i : Nat) (live : List BI) (k : Nat), i + d = l.length → d + 20000 < k → (∀ b ∈ live, wfB b) → live.length ≤ i → impl_FactsRun.l0 k live l (l.length : Int) (i : Int) = some (runFrom (l.drop i) live (i : Int))
  | 0, i, live, k, hd, hk, hw, hv => by
    obtain ⟨k, rfl⟩ : ∃ m, k = m + 1 := ⟨k - 1, by omega⟩
    rw [impl_FactsRun.l0, if_neg (by omega), List.drop_of_length_le (by omega)]
    rfl
  | d + 1, i, live, k, hd, hk, hw, hv => by
    obtain ⟨k, rfl⟩ : ∃ m, k = m + 1 := ⟨k - 1, by omega⟩
    have hi : i < l.length := by omega
    have hf := hl l[i] (List.getElem_mem hi)
    rw [impl_FactsRun.l0, if_pos (by omega), if_pos (by omega), if_pos (by omega), rdFI l i hi, impl_step live l[i] hw hf (by omega) _ (by omega), Option.bind_some, List.drop_eq_getElem_cons hi, runFrom]
    by_cases c : (stepOf live l[i]).2 = true
    · have h1 := stepOf_len live l[i]
      rw [if_pos c, if_pos c, w64 (by omega) (by omega), show (i : Int) + 1 = ((i + 1 : Nat) : Int) by omega]
      exact impl_runs l hl hn d (i + 1) _ k (by omega) (by omega) (stepOf_wf live l[i] hw hf) (by omega)
    · rw [if_neg c, if_neg c]
def runOf (l : List FI) : List BI × Int := if l.length ≤ 2000 then runFrom l [] 0 else ([], 0)
theorem spec_run (l : List FI) (hl : ∀ f ∈ l, wfB ⟨f.f3, f.f4⟩) (k : Nat) (hk : 30000 < k) : spec_FactsRun.f k l = some (runOf l) := by
  unfold spec_FactsRun.f runOf
  rw [Option.bind_some]
  by_cases c : l.length ≤ 2000
  · rw [if_neg (by omega), if_pos c]
    exact spec_runs l hl c l.length 0 [] k (by omega) (by omega) (by simp) (by simp)
  · rw [if_pos (by omega), if_neg c]
theorem impl_run (l : List FI) (hl : ∀ f ∈ l, wfB ⟨f.f3, f.f4⟩) (k : Nat) (hk : 30000 < k) : impl_FactsRun.f k l = some (runOf l) := by
  unfold impl_FactsRun.f runOf
  by_cases c : l.length ≤ 2000
  · rw [if_neg (by omega), if_pos c]
    exact impl_runs l hl c l.length 0 [] k (by omega) (by omega) (by simp) (by simp)
  · rw [if_pos (by omega), if_neg c]
theorem runOf_len (l : List FI) : (runOf l).1.length ≤ 2000 := by
  unfold runOf
  split
  · have := runFrom_len l [] 0
    simp at this
    omega
  · simp

theorem FnExactFactsRun : laws_FnExactFactsRun.Pure := by
  intro l ⟨hn, hl⟩
  obtain ⟨F, hF⟩ : ∃ F, F = 4 * l.length + 40000 := ⟨_, rfl⟩
  refine ⟨F + 1 + 1 + 1, ?_⟩
  unfold laws_FnExactFactsRun.f
  rw [szFactS_eq l _ hn (by omega) (by omega), Option.bind_some]
  by_cases c : (1048576 : Int) < l.length
  · rw [if_pos c, if_pos (by omega)]
  · rw [if_neg c, if_neg (by omega)]
    have hwf : ∀ f ∈ l.map toF, wfB ⟨f.f3, f.f4⟩ := by
      intro b hb
      obtain ⟨x, hx, rfl⟩ := List.mem_map.1 hb
      exact ⟨wf_i64 (hl x hx).2.2.2.1, wf_i64 (hl x hx).2.2.2.2⟩
    have hlen : (l.map toF).length = l.length := List.length_map ..
    generalize hm : l.map toF = m at hwf hlen
    have hol := runOf_len m
    have T : ∀ k, F ≤ k → laws_toFactS.f k l = some m := fun k hk => by rw [toFactS_eq l (by omega) k (by omega), hm]
    have S : ∀ k, F ≤ k → spec_FactsRun.f k m = some (runOf m) := fun k hk => spec_run m hwf k (by omega)
    have I : ∀ k, F ≤ k → impl_FactsRun.f k m = some (runOf m) := fun k hk => impl_run m hwf k (by omega)
    generalize runOf m = q at S I hol
    obtain ⟨q1, q2⟩ := q
    dsimp only at hol
    have E : ∀ k, F ≤ k → laws_eqBlockS.f k q1 q1 = some true := fun k hk => eqBlockS_self q1 (by omega) k (by omega)
    have E2 : ∀ k, F ≤ k → laws_eqFactS.f k m m = some true := fun k hk => eqFactS_self m (by omega) k (by omega)
    have M := fun k (hk : F ≤ k) => markBlockS_eq q1 (by omega) k (by omega)
    obtain ⟨m2, M2⟩ := markFactS_eq m (by omega) (F + 1 + 1) (by omega)
    have D := fun k (hk : F ≤ k) => heldBlockS_eq q1.length (by omega) k (by omega)
    rw [T _ (by omega), Option.bind_some, S _ (by omega), Option.bind_some, Option.bind_some, I _ (by omega), Option.bind_some, E _ (by omega), Option.bind_some, if_pos rfl]
    rw [laws_FnExactFactsRun.j0, if_neg (by simp), T _ (by omega), Option.bind_some, E2 _ (by omega), Option.bind_some, if_pos rfl, M2, Option.bind_some, if_neg (by simp; omega), E _ (by omega), Option.bind_some, if_pos rfl]
    rw [laws_FnExactFactsRun.j1, if_neg (by simp), M _ (by omega), Option.bind_some, D _ (by omega), Option.bind_some, if_neg (by omega), if_pos rfl, T _ (by omega), Option.bind_some, I _ (by omega), Option.bind_some, E _ (by omega), Option.bind_some, if_pos rfl]
    rw [laws_FnExactFactsRun.j2, if_neg (by simp), D _ (by omega), Option.bind_some, if_neg (by omega), if_pos rfl]
end Go.Proofs.Ytmnjppfebaeoiaa.Pure
