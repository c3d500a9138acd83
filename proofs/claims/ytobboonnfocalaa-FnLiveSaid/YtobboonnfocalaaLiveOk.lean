/- The program's and the reference's test of a list of blocks come to one plain test. Conditions: none. -/
import Derived.Test.YtobboonnfocalaaBase
import Derived.Test.YtobboonnfocalaaPB1x13
import Derived.Test.YtobboonnfocalaaPB1x2
import Derived.Test.YtobboonnfocalaaPB1x9
set_option linter.unusedVariables false
set_option linter.unusedSimpArgs false
namespace Go.Proofs.Ytobboonnfocalaa.Base
open Go.RowKit Go.Proofs.Ytobboonnfocalaa.PB1 Go.Proofs.YtobboonnfocalaaW.PrintWords Go.Proofs.YtobboonnfocalaaW.PrintLast Go.Proofs.YtobboonnfocalaaW.PrintMore

theorem within_eq (n a b : Int) : impl_within.f n a b = some (decide (a ≤ n ∧ n ≤ b)) := by
  unfold impl_within.f
  by_cases h : n ≥ a
  · rw [if_pos h]; congr 1; rw [decide_eq_decide]; omega
  · rw [if_neg h]; congr 1; symm; rw [decide_eq_false_iff_not]; omega

abbrev BI := S37
def wfB (b : BI) : Prop := (-9223372036854775808 ≤ b.f0 ∧ b.f0 ≤ 9223372036854775807) ∧ (-9223372036854775808 ≤ b.f1 ∧ b.f1 ≤ 9223372036854775807)
/-- The blocks from 'e' on, in order, within 'w' words. -/
def chain (w : Int) : Int → List BI → Bool
  | _, [] => true
  | e, b :: r => decide (e ≤ b.f0 ∧ 1 ≤ b.f1 ∧ b.f0 + b.f1 ≤ w) && chain w (b.f0 + b.f1) r
def liveOk (l : List BI) (w : Int) : Bool := decide (0 ≤ w ∧ w ≤ 256 ∧ l.length ≤ 300) && chain w 0 l

theorem rdB (l : List BI) (i : Nat) (h : i < l.length) : rd_T37 l (i : Int) = l[i] := by
  unfold rd_T37
  simp [List.getD_eq_getElem?_getD, h]
theorem spec_chain (l : List BI) (w : Int) (hw0 : 0 ≤ w) (hw : w ≤ 256) (hl : ∀ b ∈ l, wfB b) (hn : l.length ≤ 1048576) :
    ∀ (d i : Nat) (e : Int) (k : Nat), i + d = l.length → d < k → 0 ≤ e → e ≤ w → spec_LiveOk.l0 k l w e (i : Int) = some (chain w e (l.drop i))
  | 0, i, e, k, hd, hk, h0, h1 => by
    obtain ⟨k, rfl⟩ : ∃ m, k = m + 1 := ⟨k - 1, by omega⟩
    simp only [spec_LiveOk.l0]
    rw [if_neg (by omega), List.drop_of_length_le (by omega)]
    rfl
  | d + 1, i, e, k, hd, hk, h0, h1 => by
    obtain ⟨k, rfl⟩ : ∃ m, k = m + 1 := ⟨k - 1, by omega⟩
    have hi : i < l.length := by omega
    have hb := hl l[i] (List.getElem_mem hi)
    unfold wfB at hb
    simp only [spec_LiveOk.l0]
    rw [if_pos (by omega), if_pos (by omega), rdB l i hi, List.drop_eq_getElem_cons hi]
    generalize hbb : l[i] = b at hb ⊢
    by_cases c1 : b.f0 < e
    · rw [if_pos c1]; simp [chain, show ¬ (e ≤ b.f0) by omega]
    rw [if_neg c1]
    by_cases c2 : b.f1 < 1
    · rw [if_pos c2]; simp [chain, show ¬ (1 ≤ b.f1) by omega]
    rw [if_neg c2]
    by_cases c3 : b.f0 > w
    · rw [if_pos c3]; simp [chain, show ¬ (b.f0 + b.f1 ≤ w) by omega]
    rw [if_neg c3, w64 (n := w - b.f0) (by omega) (by omega)]
    by_cases c4 : b.f1 > w - b.f0
    · rw [if_pos c4]; simp [chain, show ¬ (b.f0 + b.f1 ≤ w) by omega]
    rw [if_neg c4, w64 (by omega) (by omega), w64 (by omega) (by omega)]
    have := spec_chain l w hw0 hw hl hn d (i + 1) (b.f0 + b.f1) k (by omega) (by omega) (by omega) (by omega)
    rw [show ((i + 1 : Nat) : Int) = (i : Int) + 1 by omega] at this
    rw [this]
    simp [chain, show e ≤ b.f0 by omega, show 1 ≤ b.f1 by omega, show b.f0 + b.f1 ≤ w by omega]

theorem impl_chain (l : List BI) (w : Int) (hw0 : 0 ≤ w) (hw : w ≤ 256) (hl : ∀ b ∈ l, wfB b) (hn : l.length ≤ 1048576) :
    ∀ (d i : Nat) (e : Int) (k : Nat), i + d = l.length → d < k → 0 ≤ e → e ≤ w → impl_areLive.l0 k w e l (l.length : Int) (i : Int) = some (chain w e (l.drop i))
  | 0, i, e, k, hd, hk, h0, h1 => by
    obtain ⟨k, rfl⟩ : ∃ m, k = m + 1 := ⟨k - 1, by omega⟩
    simp only [impl_areLive.l0]
    rw [if_neg (by omega), List.drop_of_length_le (by omega)]
    rfl
  | d + 1, i, e, k, hd, hk, h0, h1 => by
    obtain ⟨k, rfl⟩ : ∃ m, k = m + 1 := ⟨k - 1, by omega⟩
    have hi : i < l.length := by omega
    have hb := hl l[i] (List.getElem_mem hi)
    unfold wfB at hb
    simp only [impl_areLive.l0, within_eq, Option.bind_some, decide_eq_true_eq]
    rw [if_pos (by omega), if_pos (by omega), if_pos (by omega), rdB l i hi, List.drop_eq_getElem_cons hi]
    generalize hbb : l[i] = b at hb ⊢
    by_cases c1 : 1 ≤ b.f1 ∧ b.f1 ≤ w
    · rw [if_pos c1, w64 (n := w - b.f1) (by omega) (by omega)]
      by_cases c2 : e ≤ b.f0 ∧ b.f0 ≤ w - b.f1
      · rw [if_pos c2, w64 (by omega) (by omega), w64 (by omega) (by omega)]
        have := impl_chain l w hw0 hw hl hn d (i + 1) (b.f0 + b.f1) k (by omega) (by omega) (by omega) (by omega)
        rw [show ((i + 1 : Nat) : Int) = (i : Int) + 1 by omega] at this
        rw [this]
        simp [chain, show e ≤ b.f0 by omega, show 1 ≤ b.f1 by omega, show b.f0 + b.f1 ≤ w by omega]
      · rw [if_neg c2]
        simp [chain, show ¬ (e ≤ b.f0 ∧ 1 ≤ b.f1 ∧ b.f0 + b.f1 ≤ w) by omega]
    · rw [if_neg c1]
      by_cases c2 : e ≤ b.f0 ∧ 1 ≤ b.f1 ∧ b.f0 + b.f1 ≤ w
      · omega
      · simp [chain, c2]

theorem spec_liveOk (l : List BI) (w : Int) (hl : ∀ b ∈ l, wfB b) (hn : l.length ≤ 1048576) (k : Nat) (hk : l.length + 1 < k) : spec_LiveOk.f k l w = some (liveOk l w) := by
  obtain ⟨k, rfl⟩ : ∃ m, k = m + 1 := ⟨k - 1, by omega⟩
  unfold spec_LiveOk.f
  simp only [spec_LiveOk.j0, if_true]
  by_cases c1 : w < 0
  · rw [if_pos c1]; simp [liveOk, show ¬ (0 ≤ w) by omega]
  rw [if_neg c1]
  by_cases c2 : w > 256
  · rw [if_pos c2]; simp [liveOk, show ¬ (w ≤ 256) by omega]
  rw [if_neg c2]
  by_cases c3 : (l.length : Int) > 300
  · rw [if_pos (by simpa using c3)]; simp [liveOk, show ¬ (l.length ≤ 300) by omega]
  · rw [if_neg (by simpa using c3)]
    have := spec_chain l w (by omega) (by omega) hl hn l.length 0 0 k (by omega) (by omega) (by omega) (by omega)
    rw [show ((0 : Nat) : Int) = 0 from rfl] at this
    rw [this]
    simp [liveOk, show 0 ≤ w by omega, show w ≤ 256 by omega, show l.length ≤ 300 by omega]

theorem impl_areLive_eq (l : List BI) (w : Int) (hl : ∀ b ∈ l, wfB b) (hn : l.length ≤ 1048576) (k : Nat) (hk : l.length + 1 < k) : impl_areLive.f k l w = some (liveOk l w) := by
  obtain ⟨k, rfl⟩ : ∃ m, k = m + 1 := ⟨k - 1, by omega⟩
  unfold impl_areLive.f
  simp only [impl_areLive.j0, if_true, within_eq, Option.bind_some, decide_eq_true_eq]
  by_cases c1 : 0 ≤ w ∧ w ≤ 256
  · rw [if_pos c1]
    by_cases c3 : (l.length : Int) > 300
    · rw [if_pos (by simpa using c3)]; simp [liveOk, show ¬ (l.length ≤ 300) by omega]
    · rw [if_neg (by simpa using c3)]
      have := impl_chain l w (by omega) (by omega) hl hn l.length 0 0 k (by omega) (by omega) (by omega) (by omega)
      rw [show ((0 : Nat) : Int) = 0 from rfl] at this
      rw [this]
      simp [liveOk, show 0 ≤ w by omega, show w ≤ 256 by omega, show l.length ≤ 300 by omega]
  · rw [if_neg c1]; simp only [liveOk]; rw [decide_eq_false (by omega)]; rfl

end Go.Proofs.Ytobboonnfocalaa.Base
