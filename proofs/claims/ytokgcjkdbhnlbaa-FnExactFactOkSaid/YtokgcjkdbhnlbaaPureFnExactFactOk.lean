/- The program's FactOk returns what the reference's FactOk returns, for every fact. Conditions: none. -/
import Derived.Test.YtokgcjkdbhnlbaaPA1x1
import Derived.Test.YtokgcjkdbhnlbaaPA1x2
set_option linter.unusedSimpArgs false
namespace Go.Proofs.Ytokgcjkdbhnlbaa.Pure
open Go.RowKit Go.Proofs.Ytokgcjkdbhnlbaa.PA1 Go.Proofs.YtokgcjkdbhnlbaaW.PrintWords Go.Proofs.YtokgcjkdbhnlbaaW.PrintLast

def factOk (k w l a s : Int) : Bool := decide (0 ≤ w ∧ w < 4 ∧ 0 ≤ l ∧ l < 8 ∧ ((k = 1 ∨ k = 2) ∧ 0 ≤ a ∧ a ≤ 255 ∧ 1 ≤ s ∨ k = 3 ∧ a = -1 ∧ 1 ≤ s ∧ s ≤ 256 ∨ k = 4 ∧ 0 ≤ a ∧ a ≤ 4095 ∧ s = 0))

theorem within_eq (n a b : Int) : impl_within.f n a b = some (decide (a ≤ n ∧ n ≤ b)) := by
  unfold impl_within.f
  by_cases h : n ≥ a
  · rw [if_pos h]; congr 1; rw [decide_eq_decide]; omega
  · rw [if_neg h]; congr 1; symm; rw [decide_eq_false_iff_not]; omega

theorem spec_fact (k w l a s : Int) : spec_FactOk.f 2 k w l a s = some (factOk k w l a s) := by
  unfold spec_FactOk.f
  simp only [spec_FactOk.j0, spec_FactOk.j1, factOk, if_true]
  (repeat' split) <;> (rw [Option.some.injEq, Bool.eq_iff_iff]; simp only [beq_iff_eq, decide_eq_true_eq, Bool.false_eq_true, Bool.not_eq_true', decide_eq_false_iff_not, Bool.not_eq_false, false_iff, true_iff] at *; omega)

theorem impl_fact (k w l a s : Int) : impl_FactOk.f 2 k w l a s = some (factOk k w l a s) := by
  unfold impl_FactOk.f impl_isFact.f
  simp only [impl_isFact.j0, impl_isFact.j1, factOk, within_eq, Option.bind_some, Option.bind_fun_some, if_true]
  (repeat' split) <;> (rw [Option.some.injEq, Bool.eq_iff_iff]; simp only [beq_iff_eq, decide_eq_true_eq, Bool.false_eq_true, Bool.not_eq_true', decide_eq_false_iff_not, Bool.not_eq_false, false_iff, true_iff] at *; omega)

theorem FnExactFactOk : laws_FnExactFactOk.Pure := by
  intro k w l a s _ _ _ _ _
  refine ⟨2, ?_⟩
  unfold laws_FnExactFactOk.f laws_toFact.f
  simp [spec_fact, impl_fact]

end Go.Proofs.Ytokgcjkdbhnlbaa.Pure
