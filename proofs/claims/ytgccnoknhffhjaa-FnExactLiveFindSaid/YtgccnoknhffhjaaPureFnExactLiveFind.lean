/- The program's LiveFind returns what the reference's LiveFind returns, for every list of blocks, number of words and word. Conditions: none. -/
import Derived.Test.YtgccnoknhffhjaaLiveOk
import Derived.Test.YtgccnoknhffhjaaFind
import Derived.Test.YtgccnoknhffhjaaPA3x1
import Derived.Test.YtgccnoknhffhjaaPA3x2
import Derived.Test.YtgccnoknhffhjaaPA3x3
set_option linter.unusedVariables false
set_option linter.unusedSimpArgs false
namespace Go.Proofs.Ytgccnoknhffhjaa.Pure
open Go.RowKit Go.Proofs.Ytgccnoknhffhjaa.Base Go.Proofs.Ytgccnoknhffhjaa.PA3 Go.Proofs.Ytgccnoknhffhjaa.Sl Go.Proofs.YtgccnoknhffhjaaW.PrintWords Go.Proofs.YtgccnoknhffhjaaW.PrintLast

theorem ok_parts {l : List BI} {w : Int} (h : liveOk l w = true) : 0 ≤ w ∧ w ≤ 256 ∧ l.length ≤ 300 ∧ chain w 0 l = true := by
  unfold liveOk at h
  simp only [Bool.and_eq_true, decide_eq_true_eq] at h
  exact ⟨h.1.1, h.1.2.1, h.1.2.2, h.2⟩
theorem chain_mem (w : Int) : ∀ (l : List BI) (e : Int), chain w e l = true → ∀ b ∈ l, e ≤ b.f0 ∧ 1 ≤ b.f1 ∧ b.f0 + b.f1 ≤ w
  | [], e, _, b, hb => by cases hb
  | x :: r, e, h, b, hb => by
    simp only [chain, Bool.and_eq_true, decide_eq_true_eq] at h
    rcases List.mem_cons.1 hb with rfl | hb
    · exact h.1
    · have := chain_mem w r _ h.2 b hb
      omega
/-- What the search from place i on comes to. -/
def resAt (l : List BI) (j : Int) : Int × Int × Bool := if j < 0 then (0, 0, false) else ((rd_T30 l j).f0, (rd_T30 l j).f1, true)
def found (l : List BI) (t : Int) (i : Nat) : Int × Int × Bool := resAt l (idxFrom (hits t) i (l.drop i))
theorem found_hit (l : List BI) (t : Int) (i : Nat) (hi : i < l.length) (c : hits t l[i] = true) : found l t i = (l[i].f0, l[i].f1, true) := by
  have e : idxFrom (hits t) i (l.drop i) = (i : Int) := by rw [List.drop_eq_getElem_cons hi, idxFrom, if_pos c]
  unfold found resAt
  rw [e, rdB l i hi]
  exact if_neg (by omega)
theorem found_miss (l : List BI) (t : Int) (i : Nat) (hi : i < l.length) (c : ¬ hits t l[i] = true) : found l t i = found l t (i + 1) := by
  have e : idxFrom (hits t) i (l.drop i) = idxFrom (hits t) (i + 1) (l.drop (i + 1)) := by rw [List.drop_eq_getElem_cons hi, idxFrom, if_neg c]
  unfold found
  rw [e]
theorem spec_find (l : List BI) (w t : Int) (hwf : ∀ b ∈ l, wfB b) (ht : -9223372036854775808 ≤ t ∧ t ≤ 9223372036854775807) (hok : liveOk l w = true) : ∀ (d i k : Nat), i + d = l.length → 2 * d + l.length + 20 < k → spec_LiveFind.l0 k l w t (i : Int) = some (found l t i)
  | 0, i, k, hd, hk => by
    obtain ⟨p1, p2, p3, p4⟩ := ok_parts hok
    obtain ⟨k, rfl⟩ : ∃ m, k = m + 2 := ⟨k - 2, by omega⟩
    simp only [spec_LiveFind.l0]
    rw [spec_liveOk l w hwf (by omega) _ (by omega), hok]
    simp only [Option.bind_some, if_true, spec_LiveFind.j1, decide_eq_true_eq]
    rw [if_neg (by omega)]
    unfold found
    rw [List.drop_of_length_le (by omega)]
    rfl
  | d + 1, i, k, hd, hk => by
    obtain ⟨p1, p2, p3, p4⟩ := ok_parts hok
    obtain ⟨k, rfl⟩ : ∃ m, k = m + 2 := ⟨k - 2, by omega⟩
    have hi : i < l.length := by omega
    have ih := spec_find l w t hwf ht hok d (i + 1) k (by omega) (by omega)
    have hb := chain_mem w l 0 p4 l[i] (List.getElem_mem hi)
    simp only [spec_LiveFind.l0]
    rw [spec_liveOk l w hwf (by omega) _ (by omega), hok]
    simp only [Option.bind_some, if_true, spec_LiveFind.j1, decide_eq_true_eq]
    rw [if_pos (by omega), if_pos (show (0 : Int) ≤ (i : Int) by omega), if_pos (show (i : Int) < (l.length : Int) by omega), rdB l i hi, w64 (n := (l[i]).f0 + (l[i]).f1) (by omega) (by omega), w64 (n := (i : Int) + 1) (by omega) (by omega), show (i : Int) + 1 = ((i + 1 : Nat) : Int) by omega, ih]
    have hdrop := List.drop_eq_getElem_cons hi
    by_cases c : hits t l[i] = true
    · have c' := c
      unfold hits at c'
      simp only [Bool.and_eq_true, decide_eq_true_eq] at c'
      rw [w64 (by omega) (by omega)] at c'
      rw [if_pos (by omega), if_pos (by omega), found_hit l t i hi c]
    · rw [found_miss l t i hi c]
      by_cases c1 : (l[i]).f0 ≤ t
      · have c2 : ¬ t < (l[i]).f0 + (l[i]).f1 := by
          intro h
          apply c
          unfold hits
          rw [w64 (by omega) (by omega)]
          simp only [Bool.and_eq_true, decide_eq_true_eq]
          omega
        rw [if_pos c1, if_neg c2]
      · rw [if_neg c1]
def findOf (l : List BI) (w t : Int) : Int × Int × Bool := if liveOk l w = true then found l t 0 else (0, 0, false)
theorem spec_find_eq (l : List BI) (w t : Int) (hwf : ∀ b ∈ l, wfB b) (ht : -9223372036854775808 ≤ t ∧ t ≤ 9223372036854775807) (hn : l.length ≤ 1048576) (k : Nat) (hk : 3 * l.length + 30 < k) : spec_LiveFind.f k l w t = some (findOf l w t) := by
  unfold spec_LiveFind.f findOf
  by_cases h : liveOk l w = true
  · rw [if_pos h]
    exact spec_find l w t hwf ht h l.length 0 k (by omega) (by omega)
  · rw [if_neg h]
    obtain ⟨k, rfl⟩ : ∃ m, k = m + 2 := ⟨k - 2, by omega⟩
    simp only [spec_LiveFind.l0]
    rw [spec_liveOk l w hwf (by omega) _ (by omega), Option.bind_some, if_neg h]
    simp [spec_LiveFind.j1]
theorem impl_find_eq (l : List BI) (w t : Int) (hwf : ∀ b ∈ l, wfB b) (hn : l.length ≤ 1048576) (k : Nat) (hk : l.length + 1 < k) : impl_LiveFind.f k l w t = some (findOf l w t) := by
  unfold impl_LiveFind.f findOf
  rw [impl_areLive_eq l w hwf hn k hk, Option.bind_some]
  by_cases h : liveOk l w = true
  · rw [if_pos h, if_pos h]
    unfold found resAt idxOf
    rw [List.drop_zero]
    split <;> rfl
  · rw [if_neg h, if_neg h]

theorem FnExactLiveFind : laws_FnExactLiveFind.Pure := by
  intro l w t ⟨hn, hl⟩ hw ht
  have ht := wf_i64 ht
  refine ⟨4 * l.length + 50, ?_⟩
  unfold laws_FnExactLiveFind.f
  rw [szBlockS_eq l _ hn (by omega) (by omega)]
  simp only [Option.bind_some]
  by_cases c : (1048576 : Int) < l.length
  · rw [if_pos c, if_pos (by omega)]
  · rw [if_neg c, if_neg (by omega)]
    have hwf : ∀ b ∈ l.map toB, wfB b := by
      intro b hb
      obtain ⟨x, hx, rfl⟩ := List.mem_map.1 hb
      exact ⟨wf_i64 (hl x hx).1, wf_i64 (hl x hx).2⟩
    have hlen : (l.map toB).length = l.length := List.length_map ..
    generalize hm : l.map toB = m at hwf hlen
    have hT : ∀ k, l.length < k → laws_toBlockS.f k l = some m := fun k hk => by rw [toBlockS_eq l (by omega) k hk, hm]
    have e1 := hT (4 * l.length + 50) (by omega)
    have e2 := spec_find_eq m w t hwf ht (by omega) (4 * l.length + 50) (by omega)
    have e3 := impl_find_eq m w t hwf (by omega) (4 * l.length + 50) (by omega)
    have e5 := eqBlockS_self m (by omega) (4 * l.length + 49) (by omega)
    have f1 := hT (4 * l.length + 49) (by omega)
    have eb : ∀ a b, laws_eqBlock.f a b a b = some true := fun a b => by simp [laws_eqBlock.f]
    simp only [e1, e2, e3, eb, Option.bind_some, if_true, laws_FnExactLiveFind.j0, bne_self_eq_false, Bool.false_eq_true, if_false, f1, e5]

end Go.Proofs.Ytgccnoknhffhjaa.Pure
