/- The program's MachNew returns what the reference's MachNew returns, in memory of its own, for all numbers of chunks and warps. Conditions: none. -/
import Derived.Test.YtobboonnfocalaaPB1x2
import Derived.Test.YtobboonnfocalaaPB1x3
import Derived.Test.YtobboonnfocalaaPB1x5
import Derived.Test.YtobboonnfocalaaPB1x7
set_option linter.unusedSimpArgs false
namespace Go.Proofs.Ytobboonnfocalaa.Pure
open Go.RowKit Go.Proofs.Ytobboonnfocalaa.PB1 Go.Proofs.YtobboonnfocalaaW.PrintWords Go.Proofs.YtobboonnfocalaaW.PrintLast

theorem spec_out (c n : Int) (h : ¬ ((0 ≤ c ∧ c ≤ 16) ∧ (1 ≤ n ∧ n ≤ 4))) (k : Nat) : spec_MachNew.f (k + 1) c n = some ([], [], false) := by
  unfold spec_MachNew.f
  have t : spec_MachNew.j0 (k + 1) c n true = some ([], [], false) := by rw [spec_MachNew.j0, if_pos rfl]
  by_cases h1 : c < 0
  · rw [if_pos h1, t]
  · rw [if_neg h1]
    by_cases h2 : c > 16
    · rw [if_pos h2, t]
    · rw [if_neg h2]
      by_cases h3 : n < 1
      · rw [if_pos h3, t]
      · rw [if_neg h3, show decide (n > 4) = true from decide_eq_true (by omega), t]
theorem impl_out (c n : Int) (h : ¬ ((0 ≤ c ∧ c ≤ 16) ∧ (1 ≤ n ∧ n ≤ 4))) (k : Nat) : impl_MachNew.f (k + 1) c n = some ([], [], false) := by
  have t : impl_MachNew.j0 (k + 1) c n true = some ([], [], false) := by rw [impl_MachNew.j0, if_pos rfl]
  have w : ∀ x a b : Int, impl_within.f x a b = some (decide (a ≤ x ∧ x ≤ b)) := fun x a b => by
    unfold impl_within.f
    by_cases h : x ≥ a
    · rw [if_pos h]; congr 1; rw [decide_eq_decide]; omega
    · rw [if_neg h]; congr 1; symm; rw [decide_eq_false_iff_not]; omega
  unfold impl_MachNew.f
  rw [w, Option.bind_some]
  by_cases h1 : 0 ≤ c ∧ c ≤ 16
  · rw [decide_eq_true h1, if_pos rfl, w, Option.bind_some, decide_eq_false (show ¬ (1 ≤ n ∧ n ≤ 4) from fun h2 => h ⟨h1, h2⟩)]
    exact t
  · rw [decide_eq_false h1, if_neg (by simp), t]
theorem all_in : ∀ (i : Fin 17) (j : Fin 4), laws_FnExactMachNew.f 60 (i.val : Int) ((j.val : Int) + 1) = some true := by decide +kernel
theorem FnExactMachNew : laws_FnExactMachNew.Pure := by
  intro c n _ _
  by_cases h : (0 ≤ c ∧ c ≤ 16) ∧ (1 ≤ n ∧ n ≤ 4)
  · have := all_in ⟨c.toNat, by omega⟩ ⟨(n - 1).toNat, by omega⟩
    rw [show ((⟨c.toNat, by omega⟩ : Fin 17).val : Int) = c from Int.toNat_of_nonneg h.1.1, show ((⟨(n - 1).toNat, by omega⟩ : Fin 4).val : Int) + 1 = n by show ((n - 1).toNat : Int) + 1 = n; omega] at this
    exact ⟨60, this⟩
  · refine ⟨60, ?_⟩
    unfold laws_FnExactMachNew.f
    rw [spec_out c n h 59, Option.bind_some, impl_out c n h 59, Option.bind_some]
    have e : laws_eqMach.f 60 [] [] [] [] = some true := by decide +kernel
    have m : laws_markMach.f [] [] 1 = some 1 := by decide +kernel
    have q : laws_heldMach.f [] [] 1 = some 1 := by decide +kernel
    have e' : laws_eqMach.f 59 [] [] [] [] = some true := by decide +kernel
    have e2 : laws_eqMach.f 58 [] [] [] [] = some true := by decide +kernel
    rw [e, Option.bind_some, if_pos rfl]
    show laws_FnExactMachNew.j0 (59 + 1) c n false false [] [] [] [] = some true
    rw [laws_FnExactMachNew.j0, if_neg (by simp), m, Option.bind_some, q, Option.bind_some, if_neg (by omega), if_pos rfl, impl_out c n h 58, Option.bind_some, e', Option.bind_some, if_pos rfl]
    show laws_FnExactMachNew.j1 (58 + 1) 1 false [] [] = some true
    rw [laws_FnExactMachNew.j1, if_neg (by simp), q, Option.bind_some, if_neg (by omega), if_pos rfl]
end Go.Proofs.Ytobboonnfocalaa.Pure
